/-
  Joined texts:what a statement's proof reaches.
-/
import Derived.Lib.Builder
import Derived.Test.YtjblgopghhgflaaGreatPAL7
set_option maxHeartbeats 8000000
set_option maxRecDepth 100000
set_option linter.unusedSimpArgs false
set_option linter.unusedVariables false
section
namespace Go.Proofs.YtjblgopghhgflaaGreat
open Go Leg Codec Api Dsk Wal
theorem As(c n:Nat)(a:CL)(h:CLOk n a)(hn:n≤100000):
 DT 69 #[(.pointer (some ⟨c,0,none⟩))] T0 [fE c a] (c9 (λ_ H=>H=[fE c (u7 a)])):=by
 refine BD 20 Tryz.func69 rfl rfl rfl λw0 F hF=>sr λ_ J1=>PS ?_
 refine nx J1 (aq ?_)
 refine bn (α:=(Nat)) (λi=>i≤5) (λi=>[(0,(.pointer (some ⟨c,0,none⟩))),(4,(.int .i64 (((i:Nat):Int))))]) (λi=>[fE c (sweepTo a i)]) (λi=>5-i) 0
  (aN _) SB
  (λ_ s=>s) (λi hinv=>?_)
 obtain hi:=hinv;refine sr λ_ J2=>PS ?_
 refine an ?_ ?_<;>intro h5;refine nx J2 (ab λ_ J3=>CY (qx J3 (ab λ_ J4=>aq (sr λ_ J5=>P2 ?_))));refine nx J5 (sr λ_ J6=>PS ?_);refine nx J6 (aq ?_)
 refine bn (α:=(Nat)) (λj=>j≤5) (λj=>[(0,(.pointer (some ⟨c,0,none⟩))),(2,(.int .i64 (((i:Nat):Int)))),(4,(.int .i64 (((i:Nat):Int)))),(7,(.int .i64 (((j:Nat):Int))))]) (λj=>[fE c (tB (sweepTo a i) i j)]) (λj=>5-j) 0
  (aN _) SB
  (λ_ s=>s) (λj hinv=>?_)
 obtain hj:=hinv;refine sr λ_ J7=>PS ?_
 refine an ?_ ?_<;>intro h8;refine nx J7 (ab λ_ J8=>CY (qx J8 (ab λ_ J9=>aq (sr λ_ J10=>P2 ?_))));refine nx J10 (sr λ_ J11=>P3 ?_);refine an ?_ ?_<;>intro h12;refine nx J11 (CY (ad (P3 ?_)));refine tp (kO OpT.zero (OpT.mk 5 ((i:Nat):Int) ((j:Nat):Int) 0 0 ChangeT.zero 0 0 0) [(0,[Value.int .i64 5]),(1,[Value.int .i64 ((i:Nat):Int)]),(2,[Value.int .i64 ((j:Nat):Int)])] fz oU (g:=OpT.sg)) ?_;refine CE IK (sj (c:=c) (o:=(KO 5 ((i:Nat):Int) ((j:Nat):Int))) ((h.sweepTo i).rows i j) hn (zh ..)) ID ?_;refine ap (af (ac J9 (ad (AD ?_))));refine PS ?_;refine ap ?_
 exact aI ((j+1):(Nat)) (by omega) (by show 5- (j+1)<5-j;omega)
  SB
  (λ_ s=>by rw[GM (by omega)];exact s)
 refine nx J11 (CN (aQ (af (ac J9 (ad (AD ?_))))));refine PS ?_;refine ap ?_
 exact aI ((j+1):(Nat)) (by omega) (by show 5- (j+1)<5-j;omega)
  SB
  (λ_ s=>by rw[GN (by omega)];exact s)
 refine nx J7 (ab λ_ J12=>CN (aS (ay (ay (bj (af (ac J4 (ad (AD ?_)))))))));refine PS ?_;refine ap ?_
 exact aI ((i+1):(Nat)) (by omega) (by show 5- (i+1)<5-i;omega)
  SB
  (λ_ s=>by rw[show j=5 by omega]at s;exact s)
 exact nx J2 (ab λ_ J13=>CN (aS (ay (ay (bj (aF (H':=[fE c (u7 a)]) (dh _) (λ_ s=>by rw[show i=5 by omega]at s;exact s) (bz rfl rfl)))))))
theorem yV(c n:Nat)(a:CL)(h:CLOk n a)(hn:n≤100000)(rounds:Nat)(hrd:rounds≤1000):
 DT 30 #[(.pointer (some ⟨c,0,none⟩)),(.int .i64 (((rounds:Nat):Int)))] T0 [fE c a] (c9 (λ_ H=>H=[fE c (jf a rounds)])):=by
 refine BD 36 Tryz.func30 rfl rfl rfl λw0 F hF=>ab λ_ J1=>sr λ_ J2=>PS ?_
 refine tp (hJ rfl KR rfl rfl) ?_;refine nx J2 (CN (qx J1 (sr λ_ J3=>PS ?_)));refine nx J3 (aq ?_)
 refine bn (α:=(Nat)) (λm=>m≤rounds) (λm=>[(0,(.pointer (some ⟨c,0,none⟩))),(1,(.int .i64 (((rounds:Nat):Int)))),(4,(.int .i64 (((m:Nat):Int))))]) (λm=>[fE c (jf a m)]) (λm=>rounds-m) 0
  (aN _) SB
  (λ_ s=>s) (λm hinv=>?_)
 obtain hm:=hinv;refine ab λ_ J4=>sr λ_ J5=>P3 ?_
 refine an ?_ ?_<;>intro h11;refine nx J5 (CY (qx J4 (ab λ_ J6=>aq (ab λ_ J7=>sr λ_ J8=>PS ?_))));refine nx J8 (aq ?_)
 refine bn (α:=(Nat)) (λi=>i≤5) (λi=>[(0,(.pointer (some ⟨c,0,none⟩))),(1,(.int .i64 (((rounds:Nat):Int)))),(4,(.int .i64 (((m:Nat):Int)))),(14,(.int .i64 (((i:Nat):Int))))]) (λi=>[fE c (sK (jf a m) i)]) (λi=>5-i) 0
  (aN _) SB
  (λ_ s=>s) (λi hinv=>?_)
 obtain hi:=hinv;refine sr λ_ J9=>PS ?_
 refine an ?_ ?_<;>intro h15;refine nx J9 (ab λ_ J10=>CY (qx J10 (ab λ_ J11=>aq (sr λ_ J12=>P2 ?_))));refine nx J12 (ad (P2 ?_));refine tp (kO OpT.zero (OpT.mk 8 ((i:Nat):Int) 0 0 0 ChangeT.zero 0 0 0) [(0,[Value.int .i64 8]),(1,[Value.int .i64 ((i:Nat):Int)])] fz oU (g:=OpT.sg)) ?_;refine CE IK (sj (c:=c) (o:=(KO 8 ((i:Nat):Int) 0)) ((h.settle m).ticks i) hn (zh ..)) ID ?_;refine ap (af (ac J11 (ad (AD ?_))));refine PS ?_;refine ap ?_
 exact aI ((i+1):(Nat)) (by omega) (by show 5- (i+1)<5-i;omega)
  SB
  (λ_ s=>s)
 refine nx J9 (ab λ_ J13=>CN (aS (ay (ay (bj (ac J7 (sr λ_ J14=>PS ?_)))))));refine nx J14 (aq ?_)
 refine bn (α:=(Nat)×(CL)) (λ⟨k,d⟩=>k≤400∧CLOk n d∧l6 (400-k) d=vw (jf a m)) (λ⟨k,d⟩=>[(0,(.pointer (some ⟨c,0,none⟩))),(1,(.int .i64 (((rounds:Nat):Int)))),(4,(.int .i64 (((m:Nat):Int)))),(6,(.int .i64 (((k:Nat):Int))))]) (λ⟨k,d⟩=>[fE c d]) (λ⟨k,d⟩=>400-k) (0,sK (jf a m) i)
  ⟨aN _,(h.settle m).ticks i,by rw[show i=5 by omega];exact Fe _⟩ SB
  (λ_ s=>s) (λ⟨k,d⟩ hinv=>?_)
 obtain⟨hk,hd,hs⟩:=hinv;refine ab λ_ J15=>sr λ_ J16=>P2 ?_
 refine an ?_ ?_<;>intro h23;refine P3 ?_;refine FA 0 ie w6 ?_;refine JV (H':=λg:CX=>[ag c (ey g.n (k0 g) (jb d g.r) g.p) 104,dL 156 208 5 g.n (cv d.W),bC ((List.range 5).map λi=>kl (d.at' i) (g.d i) (g.r i) (g.p i))]) (λ_ s=>fk s) (λg=>LT 0 Gn (.pointer (some ⟨g.n,0,none⟩)) ?_ (hc:=by exact xo g.n (k0 g) (jb d g.r) g.p));refine CE Lx (tI g.n (cv d.W) (uO hd)) (SM [1]) ?_;rw[oq d.W 25 (aK _)];change TL _ _ _ _ _ _ _ _ _ [dL 156 208 5 g.n (cv d.W),ag c (ey g.n (k0 g) (jb d g.r) g.p) 104,bC ((List.range 5).map λi=>kl (d.at' i) (g.d i) (g.r i) (g.p i))];refine cq (H':=[fE c d]) (λ_ s=>bi (p:=qn c d) (H:=[]) g (az [1,0,0] rfl s)) (PS ?_);refine an ?_ ?_<;>intro h30;refine PS ?_;refine nx J16 (CY (qx J15 (ab λ_ J17=>aq (ad (PS ?_)))));refine CZ Nu (As c n d hd hn) ID λvR=>?_
 refine ap (af (ac J17 (ad (PS ?_))));refine AD ?_;refine PS ?_;refine ap ?_
 exact aI ((k+1,u7 d):(Nat)×(CL)) ⟨by omega,hd.sweepTo 5,by rw[rC (by omega),if_neg (by unfold pc at*;omega)]at hs;exact hs⟩ (by show 400- (k+1)<400-k;omega)
  SB
  (λ_ s=>s)
 have hfin:d=jf a (m+1):=by rw[rC (by omega),if_pos (by unfold pc at*;omega)]at hs;exact hs
 refine PS ?_;refine nx J16 (CN (aS (ay (ay (bj (af (ac J6 (ad (PS ?_)))))))));refine AD ?_;refine PS ?_;refine ap ?_
 exact aI ((m+1):(Nat)) (by omega) (by show rounds- (m+1)<rounds-m;omega)
  SB
  (λ_ s=>by rw[hfin]at s;exact s)
 have hfin:d=jf a (m+1):=by rw[yT (by omega)]at hs;exact hs
 refine PS ?_
 iterate 6 refine UF ?_
 refine PS ?_;refine nx J16 (CN (aS (ay (ay (bj (af (ac J6 (ad (PS ?_)))))))));refine AD ?_;refine PS ?_;refine ap ?_
 exact aI ((m+1):(Nat)) (by omega) (by show rounds- (m+1)<rounds-m;omega)
  SB
  (λ_ s=>by rw[hfin]at s;exact s)
 exact nx J5 (CN (aS (ay (ay (bj (aF (H':=[fE c (jf a rounds)]) (dh _) (λ_ s=>by rw[show m=rounds by omega]at s;exact s) (bz rfl rfl)))))))
end Go.Proofs.YtjblgopghhgflaaGreat
end

section
namespace Api
open Go Leg Codec Dsk Wal
structure RepOk(m:Nat)(s:MS LD):Prop where
 ops:0≤s.ops∧s.ops≤((m:Nat):Int)
 r: ∀x∈s.replies,1≤x.op∧x.op≤s.ops
 one:(s.replies.map (·.op)).Nodup
 w:0<s.waits→s.waits≤s.ops∧∀x∈s.replies,x.op≠s.waits
structure RepsOk(m:Nat)(a:CL):Prop where
 ok: ∀i s,(a.at' i).run=some s→RepOk m s
theorem Fc(a:CL)(l:List OpT)(o:OpT):gn a (l++[o])=(B5 (gn a l) o).1:=by simp[gn]
theorem Fb(a:CL)(l:List OpT){k:Nat}(hk:k<l.length):gn a (l.take (k+1))=(B5 (gn a (l.take k)) (l[k])).1:=by
 rw[co hk,Fc]
structure RW(r:ReplyT):Prop where
 op:wV r.op
 err:wV r.err
 value:wV r.value
def Bn:OpT:=⟨0,0,0,0,5, .zero,0,0,0⟩
theorem Bm:OkOp Bn:=⟨HK,by decide⟩
def IU:CL:=(B5 .new Bn).1
def fitB:CL:=jf IU 3
theorem fitA_ok:CLOk 1 IU:=JR new_ok Bm
def MA:Bool:=decide ((B5 .new Bn).2=0)&&(match(fitB.at' 2).run with
 |some s=>decide (mo s.book 0=5)
 |none=>false)&&(fitB.at' 2).up&&(fitB.at' 4).up
theorem F4:MA=true:=by decide+kernel
theorem IT:(B5 .new Bn).2=0∧∃s2,(fitB.at' 2).run=some s2∧(fitB.at' 2).up=true∧mo s2.book 0=5∧(fitB.at' 4).up=true:=by
 have h:=F4;unfold MA at h;rw[av,av,av]at h;obtain⟨⟨⟨h1,h2⟩,h3⟩,h4⟩:=h;refine⟨of_decide_eq_true h1,?_⟩;cases hs:(fitB.at' 2).run with
 |none=>rw[hs]at h2;cases h2
 |some s=>rw[hs]at h2;exact⟨s,rfl,h3,of_decide_eq_true h2,h4⟩
def EW{α:Type}(f:α→List Int)(us:List Value)(x:α)(_:Hl):Prop:=us=ints (f x)∧WF (f x)
theorem JP{α:Type}{f:α→List Int}{m:Nat}{v:Value}{l:List α}{F:Hl}(h:IsL m (EW f) v l F):IsL m (EF f) v l F∧∀o∈l,WF (f o):=by
 rcases h with⟨rfl,rfl⟩| ⟨a,c,rfl,rfl⟩| ⟨b,off,cap,cs,T,z,rfl,h1,h2,h3,h4⟩
 · exact⟨.inl ⟨rfl,rfl⟩,λo ho=>by cases ho⟩
 · exact⟨.inr (.inl ⟨a,c,rfl,rfl⟩),λo ho=>by cases ho⟩
 · refine⟨.inr (.inr ⟨b,off,cap,cs,T,z,rfl,h1,h2,h3,λj hj=>?_⟩),λo ho=>?_⟩
   · obtain⟨us,e1,e2,e3⟩:=h4 j hj
     exact⟨us,e1,e2,e3.1⟩
   · obtain⟨j,hj,rfl⟩:=fa ho
     obtain⟨us,e1,e2,e3⟩:=h4 j hj;exact e3.2
theorem IE{o:OpT}(h:WF o.flat):OkOp o:=by
 refine⟨⟨λn hn=>h n ?_⟩,?_⟩
 · simp only[OpT.flat,ez,cn,List.not_mem_nil,or_false]
   simp[hn]
 · have:=Ad (h o.n (by simp[OpT.flat]))
   omega
theorem Kh{x:Value}{l:List OpT}{F:Hl}(h:IsL 11 (EW OpT.flat) x l F): ∀o∈l,OkOp o:=λo ho=>IE ((JP h).2 o ho)
section
variable {A m:List ReplyT} {e:Int}
end
end Api
end

section
namespace Go.Proofs.YtjblgopghhgflaaGreat
open Go Leg Codec Api Dsk Wal
theorem C2(x:Value)(l:List OpT):
 DT 13 #[x] (IsL 11 (EF OpT.flat) x l) [] (RI (.bool (decide (((l.length:Nat):Int)≤1200))) []):=by
 refine BD 6 Tryz.func13 rfl rfl rfl λw0 F hF=>sr λ_ J1=>PS ?_
 refine nx J1 (sr λ_ J2=>PS ?_);refine tp (dX rfl Tryz.underlying22 rfl hF.len) ?_;refine P2 ?_;exact nx J2 (ai (WK [] (au rfl rfl ⟨rfl,rfl⟩)))
theorem ki{D:DS}(hD:Whole D.s): ∀k,k≤2048→Wrote .new k (0,kj D k)∧(kj D k).ar=false∧(kj D k).dn=false
 |0,_=>⟨Wrote.none DkOk.new.ok DkOk.new.inn,rfl,rfl⟩
 |k+1,hk=>by
  obtain⟨h,ha,hd⟩:=ki hD k (by omega);rw[kj];split
  · exact⟨h.more (by omega),ha,hd⟩
  · have h1:0≤((k:Nat):Int)∧((k:Nat):Int)<2048:=by omega
    have h2:(it D.s ((k:Nat):Int)).length≤64:=by rw[cr hD];exact aK _
    have w:=qq h1 h2 hd (.inl ha);have o:=Wrote.one h.1 h.2.1 h1 h2;rw[w]at o ⊢;exact⟨h.then rfl o,by show(zc _ _ _).ar=false;unfold zc;exact ha,rfl⟩
theorem At{D:DS}(hD:Whole D.s):DkOk (m5 D):=by
 obtain⟨h,_⟩:=ki hD 2048 (aK _);exact(DkOk.wrote DkOk.new h (aK _)).2
theorem Cp{D:DS}(hD:Whole D.s)(k:Nat)(hk:k≤2048):(kj D k).ws.length≤2048:=by
 obtain⟨⟨_,_,h⟩,_,hd⟩:=ki hD k hk;rcases h with⟨h,_⟩| ⟨_,h,_⟩
 · cases h
 · have:(DS.new).ws.length=0:=rfl
   have h:(kj D k).ws.length≤(DS.new).ws.length+k:=h;omega
theorem DI(i d:Nat)(D:DS)(hok:DkOk D):
 DT 76 #[(.int .i64 (((i:Nat):Int))),(.pointer (some ⟨d,0,none⟩))] T0 [dk d D] (c9 (λv H=>((cW i (m5 D)).1=none∧v= .pointer none∧H=[dk d D])∨∃s r dn,(cW i (m5 D)).1=some s∧v= .pointer (some ⟨r,0,none⟩)∧H=[dk d D,eP s dn r])):=by
 refine BD 36 Tryz.func76 rfl rfl rfl λw0 F hF=>sr λ_ J1=>PS ?_
 refine nx J1 (sr λ_ J2=>CR Kt (Ds) ID λvR HR hR=>?_);obtain⟨dn,rfl,rfl⟩:=hR;refine PS ?_;refine nx J2 (ab λ_ J3=>sr λ_ J4=>PS ?_);refine nx J4 (aq ?_)
 refine bn (α:=(Nat)) (λk=>k≤2048) (λk=>[(0,(.int .i64 (((i:Nat):Int)))),(1,(.pointer (some ⟨d,0,none⟩))),(4,(.pointer none)),(5,(.pointer (some ⟨dn,0,none⟩))),(11,(.int .i64 (((k:Nat):Int))))]) (λk=>[dk d D,dk dn (kj D k)]) (λk=>2048-k) 0
  (aN _) SB
  (λ_ s=>az [1,0] rfl s) (λk hinv=>?_)
 obtain hk:=hinv;refine sr λ_ J5=>PS ?_
 refine an ?_ ?_<;>intro h12;refine nx J5 (ab λ_ J6=>CY (qx J6 (ab λ_ J7=>aq (sr λ_ J8=>P2 ?_))));refine nx J8 (sr λ_ J9=>P2 ?_);refine CE Nv (IW d D ((k:Nat):Int) hok.ok) ID ?_;refine XA Ca λb7=>?_
 refine bF (vs:=dY (it D.s ((k:Nat):Int))) (i:=0) (aa rfl) rfl rfl rfl rfl rfl (by rw[aX,cr hok.ok.s];exact jq) (eN _) rfl rfl (by rw[aX,cr hok.ok.s];exact aK _) (fi (by rw[aX,cr hok.ok.s];rfl)) rfl (nx J9 (sr λ_ J10=>tp (aM (vs:=dY (it D.s ((k:Nat):Int))) rfl oR rfl jq rfl (RO 0) (by rw[aX];exact cr hok.ok.s _) (by rw[a8,aB (by rw[aX,cr hok.ok.s];exact aK _)])) ?_));refine BV ((dY zs).toArray) ?_;refine tp (PV.neqB (a:=(it D.s ((k:Nat):Int))) (b:=zs) (m:=2) Jm Jk rfl Jn Jp Jo (cr hok.ok.s _) (by simp[zs]) rfl rfl rfl) ?_;refine an ?_ ?_<;>intro h19;refine nx J10 (CY (ad (P2 ?_)));refine tp (nd rfl oR kV rfl) ?_;refine CF Kr (wx dn (kj D k) ((k:Nat):Int) (.slice (some ⟨b7,0,none⟩) (64) (64)) ((it D.s ((k:Nat):Int))) (ki hok.ok.s k (by omega)).1.1 (by have:=Cp hok.ok.s k (by omega);omega)) (SM [2]) (λg d s=>H9 (Bh 0 64 (cr hok.ok.s _) (by decide) rfl rfl g d s)) ?_;refine ap (af (ac J7 (ad (AD ?_))));refine PS ?_;refine ap ?_
 exact aI ((k+1):(Nat)) (by omega) (by show 2048- (k+1)<2048-k;omega)
  SB
  (λ_ s=>by rw[kj,if_neg h19];exact ak [2,0] rfl s)
 refine nx J10 (CN (aQ (af (ac J7 (ad (AD ?_))))));refine PS ?_;refine ap ?_
 exact aI ((k+1):(Nat)) (by omega) (by show 2048- (k+1)<2048-k;omega)
  SB
  (λ_ s=>by rw[kj,if_pos (Decidable.not_not.1 h19)];exact ak [1,1] rfl s)
 refine nx J5 (ab λ_ J11=>CN (aS (ay (ay (bj (ac J3 (sr λ_ J12=>?_)))))));obtain rfl:k=2048:=by omega
 refine PS ?_;refine CE Kq (zE dn (kj D 2048) (ki hok.ok.s 2048 (by omega)).1.1) (SM [1]) ?_;refine nx J12 (sr λ_ J13=>P2 ?_);refine CR Ks (po i dn (m5 D) (At hok.ok.s)) ID λvR HR hR=>?_
 rcases hR with⟨hn,h0,rfl,rfl⟩| ⟨s,r,hn,rfl,rfl⟩
 refine P4 ?_;refine PS ?_;refine nx J13 (ab λ_ J14=>sr λ_ J15=>P2 ?_);refine an ?_ ?_<;>intro h34;refine nx J15 (CY (sr λ_ J16=>PS ?_));exact nx J16 (ai (ae (WK [1] (au rfl rfl (.inl ⟨hn,rfl,rfl⟩)))))
 · exact absurd h34 (by simpa using h0)
 refine P4 ?_;refine PS ?_;refine nx J13 (ab λ_ J17=>sr λ_ J18=>P2 ?_);refine nx J18 (CN (qx J17 (sr λ_ J19=>P2 ?_)));exact nx J19 (ai (WK [2,0] (au rfl rfl (.inr ⟨s,r,dn,hn,rfl,rfl⟩))))
def Na(a:CL)(i:Nat)(d r:Nat):HP:=match KJ a i with
 |some s=>eP s d r
 |none=>λ_=>True
abbrev uk(a:CL)(d r:Nat→Nat)(j:Nat):HP:=Na a j (d j) (r j)
def nu(a:CL)(d r:Nat→Nat):HP:=bC ((List.range 5).map (uk a d r))
def mC(a:CL)(g:CX)(r:Nat→Nat)(i:Nat):Nat:=if(a.at' i).up then g.r i else r i
def j5(a:CL)(g:CX)(r:Nat→Nat)(i:Nat):Value:=match iP a i with
 |some _=> .pointer (some ⟨mC a g r i,0,none⟩)
 |none=> .pointer none
def iv(a:CL)(g:CX)(r:Nat→Nat)(i:Nat):List Value:=(List.range 5).map λj=>if j<i then j5 a g r j else .pointer none
section
variable {a:CL} {g:CX} {r d:Nat→Nat} {i x y:Nat}
theorem fB:(iv a g r i).length=5:=by simp[iv]
theorem vW: ∀u∈iv a g r i,u.oneCell'=true:=λu hu=>by
 unfold iv at hu;obtain⟨j,_,rfl⟩:=eX.1 hu;unfold j5
 repeat' split
 all_goals rfl
theorem vV{v:Value}(hi:i<5){r':Nat→Nat}(hr: ∀j,j<i→j5 a g r' j=j5 a g r j)(hv:v=j5 a g r' i):(iv a g r i).set i v=iv a g r' (i+1):=by
 refine List.ext_getElem? λj=>?_
 unfold iv
 by_cases hj:j=i
 · subst hj
   rw[List.getElem?_set_self (by simp;omega),List.getElem?_map,List.getElem?_range hi];simp[hv]
 · rw[List.getElem?_set_ne (λe=>hj e.symm),List.getElem?_map,List.getElem?_map]
   by_cases h5:j<5
   · rw[List.getElem?_range h5]
     simp only[Option.map_some]
     by_cases h:j<i
     · rw[if_pos h,if_pos (by omega),hr j h]
     · rw[if_neg h,if_neg (by omega)]
   · rw[List.getElem?_eq_none (by rw[kN];omega)];rfl
theorem En{v:Value}(hi:i<5):((iv a g r i).set i v)[i]?=some v:=List.getElem?_set_self (by rw[fB];exact hi)
theorem jE{j:Nat}(hj:j<5):(iv a g r 5)[j]?=some (j5 a g r j):=by
 unfold iv;rw[List.getElem?_map,List.getElem?_range hj];simp[hj]
theorem GK{s:MS LD}(hu:(a.at' i).up=true)(hs:(a.at' i).run=some s):iP a i=some s:=by unfold iP;rw[if_pos hu];exact hs
theorem vl(hu:(a.at' i).up=false):iP a i=(cW i (m5 (a.at' i).dk)).1:=by unfold iP;rw[if_neg (by rw[hu];decide)]
theorem DJ(hu:(a.at' i).up=false):KJ a i=(cW i (m5 (a.at' i).dk)).1:=by unfold KJ;rw[if_neg (by rw[hu];decide)]
theorem fI{s:MS LD}(hs:iP a i=some s):j5 a g r i= .pointer (some ⟨mC a g r i,0,none⟩):=by unfold j5;rw[hs]
theorem qE(hs:iP a i=none):j5 a g r i= .pointer none:=by unfold j5;rw[hs]
theorem E3{j:Nat}(hj:j<i):j5 a g (kG r i y) j=j5 a g r j:=by
 unfold j5 mC;rw[mx r y (show j≠i by omega)]
theorem IM{s:MS LD}(hi:i<5)(hu:(a.at' i).up=true)(hs:(a.at' i).run=some s):(iv a g r i).set i (.pointer (some ⟨g.r i,0,none⟩))=iv a g r (i+1):=
 vV hi (λ_ _=>rfl) (by rw[fI (GK hu hs)];unfold mC;rw[if_pos hu])
theorem FQ(hi:i<5)(hu:(a.at' i).up=false)(hn:(cW i (m5 (a.at' i).dk)).1=none):((iv a g r i).set i (.pointer none)).set i (.pointer none)=iv a g r (i+1):=by
 rw[gT];exact vV hi (λ_ _=>rfl) (by rw[qE ((vl hu).trans hn)])
theorem FP{s:MS LD}(hi:i<5)(hu:(a.at' i).up=false)(hn:(cW i (m5 (a.at' i).dk)).1=some s):((iv a g r i).set i (.pointer none)).set i (.pointer (some ⟨y,0,none⟩))=iv a g (kG r i y) (i+1):=by
 rw[gT];refine vV hi (λj hj=>E3 hj) ?_;rw[fI ((vl hu).trans hn)];unfold mC;rw[if_neg (by rw[hu];decide),iK]
theorem BS{H:List HP}{h:Hl}(hn:KJ a i=none)(s:bC (bC ((List.range i).map (uk a d r))::H) h):bC (bC ((List.range (i+1)).map (uk a d r))::H) h:=by
 refine vC (f:=uk a d r) (g:=uk a d r) (λ_ _=>rfl) ?_;have e:uk a d r i= λ_=>True:=by unfold uk Na;rw[hn]
 rw[e];exact pq s
theorem HY{s:MS LD}{H:List HP}{h:Hl}(hn:KJ a i=some s)(q:bC (eP s x y::bC ((List.range i).map (uk a d r))::H) h):bC (bC ((List.range (i+1)).map (uk a (kG d i x) (kG r i y)))::H) h:=by
 refine vC (f:=uk a d r) (g:=uk a (kG d i x) (kG r i y)) (λj hj=>by unfold uk;rw[mx d x (show j≠i by omega),mx r y (show j≠i by omega)]) ?_;have e:uk a (kG d i x) (kG r i y) i=eP s x y:=by unfold uk Na;rw[hn,iK,iK]
 rw[e];exact q
theorem na{f:FuncId}{args:Nat→Array Value}{Q:Value→Prop}{c:Nat}{s:MS LD}(hi:i<5)(hs:iP a i=some s)(hf: ∀d r,DT f (args r) T0 [eP s d r] (c9 λv H=>Q v∧H=[eP s d r])):
 DT f (args (mC a g r i)) T0 [bT c a g,nu a d r] (c9 λv H=>Q v∧H=[bT c a g,nu a d r]):=by
 cases hu:(a.at' i).up with
 |true=>
  have hr:(a.at' i).run=some s:=by unfold iP at hs;rw[if_pos hu]at hs;exact hs
  unfold mC;rw[if_pos hu];refine Leg.Does.withinR (B:=[nu a d r]) (Mx hi hr (hf (g.d i) (g.r i))) (λ_ _ _ _=>trivial) (λh q=>q) λv H hp=>?_
  obtain⟨hQ,rfl⟩:=hp;exact⟨_,λ_ q=>q,hQ,rfl⟩
 |false=>
  have ha:KJ a i=some s:=by rw[DJ hu,←vl hu];exact hs
  unfold mC;rw[if_neg (by rw[hu];decide)];have e:uk a d r i=eP s (d i) (r i):=by unfold uk Na;rw[ha]
  refine Leg.Does.withinR (B:=[bC (((List.range 5).map (uk a d r)).eraseIdx i),bT c a g]) (hf (d i) (r i)) (λ_ _ _ _=>trivial) (λh q=>?_) λv H hp=>?_
  · have q2:=sW (f:=uk a d r) hi (az [1,0] rfl q)
    rw[e]at q2;exact q2
  · obtain⟨hQ,rfl⟩:=hp
    refine⟨[bT c a g,nu a d r],λh q=>?_,hQ,rfl⟩;refine az [1,0] rfl (sV (H:=[bT c a g]) (f:=uk a d r) (g:=uk a d r) hi (λ_ _=>rfl) ?_);rw[e];exact q
end
theorem BR(c i:Nat)(a:CL)(g:CX)(hi:i<5)(hok:DkOk (a.at' i).dk):DT 76 #[.int .i64 ((i:Nat):Int), .pointer (some ⟨g.d i,0,none⟩)] T0 [bT c a g] (c9 (λv H=>((cW i (m5 (a.at' i).dk)).1=none∧v= .pointer none∧H=[bT c a g])∨∃s r dn,(cW i (m5 (a.at' i).dk)).1=some s∧v= .pointer (some ⟨r,0,none⟩)∧H=[bT c a g,eP s dn r])):=by
 refine li (Ev (Q:=λv X=>((cW i (m5 (a.at' i).dk)).1=none∧v= .pointer none∧X=[])∨∃s r dn,(cW i (m5 (a.at' i).dk)).1=some s∧v= .pointer (some ⟨r,0,none⟩)∧X=[eP s dn r]) hi ?_) λv H hp=>?_
 · refine Leg.Does.withinR (B:=[ag c (ey g.n (k0 g) (jb a g.r) g.p) 104,dL 156 208 5 g.n (cv a.W),lM (g.p i) (a.at' i).past,p9 (a.at' i) (g.d i) (g.r i)]) (DI i (g.d i) (a.at' i).dk hok) (λ_ _ _ _=>trivial) (λh q=>az [2,0,0,0,0] rfl q) λv H hp=>?_
   rcases hp with⟨hn,rfl,rfl⟩| ⟨s,r,dn,hn,rfl,rfl⟩
   · exact⟨_,λh q=>az [1,1,0,0,0] rfl q,[], .inl ⟨hn,rfl,rfl⟩,(bb _).symm⟩
   · exact⟨_,λh q=>az [2,2,0,1,1,0] rfl q,[eP s dn r], .inr ⟨s,r,dn,hn,rfl,rfl⟩,rfl⟩
 · obtain⟨X,hq,rfl⟩:=hp
   rcases hq with⟨hn,rfl,rfl⟩| ⟨s,r,dn,hn,rfl,rfl⟩
   · exact .inl ⟨hn,rfl,rfl⟩
   · exact .inr ⟨s,r,dn,hn,rfl,rfl⟩
theorem kx(c n:Nat)(a:CL)(g:CX)(h:CLOk n a):
 DT 41 #[(.pointer (some ⟨c,0,none⟩))] T0 [bT c a g] (c9 (λv H=>∃r d:Nat→Nat,v= .agg (iv a g r 5).toArray∧H=[bT c a g,nu a d r])):=by
 refine BD 32 Tryz.func41 rfl rfl rfl λw0 F hF=>sr λ_ J1=>XA M5 λb2=>?_
 refine nx J1 (sr λ_ J2=>XA M5 λb3=>?_);refine nx J2 (ab λ_ J3=>sr λ_ J4=>PS ?_);refine nx J4 (aq ?_)
 refine bn (α:=(Nat)×(Nat→Nat)×(Nat→Nat)) (λ⟨i,d,r⟩=>i≤5) (λ⟨i,d,r⟩=>[(0,(.pointer (some ⟨c,0,none⟩))),(2,(.pointer (some ⟨b2,0,none⟩))),(3,(.pointer (some ⟨b3,0,none⟩))),(5,(.int .i64 (((i:Nat):Int))))]) (λ⟨i,d,r⟩=>[bT c a g,ag b3 (iv a g r i) 62,bC ((List.range i).map (uk a d r)),ag b2 [(.pointer none),(.pointer none),(.pointer none),(.pointer none),(.pointer none)] 62]) (λ⟨i,d,r⟩=>5-i) (0,λ_=>0,λ_=>0)
  (aN _) SB
  (λ_ q=>az [1,1,0,0] rfl (pq (ak [2,0,0] rfl q))) (λ⟨i,d,r⟩ hinv=>?_)
 obtain hi:=hinv;refine sr λ_ J5=>PS ?_
 refine an ?_ ?_<;>intro h6;refine nx J5 (ab λ_ J6=>CY (qx J6 (ab λ_ J7=>aq (sr λ_ J8=>P2 ?_))));refine nx J8 (sr λ_ J9=>P3 ?_);refine CR LS (C1 (i:=i) (by omega)) ID λvR HR hR=>?_
 rcases hR with⟨hup,rfl,rfl⟩| ⟨s,hrun,hup,rfl,rfl⟩
 refine IX i qa gV ?_;refine bv (i:=1) (aa rfl) rfl rfl rfl rfl rfl gV rfl rfl (by simp only[ct,fB];omega) rfl rfl (nx J9 (sr λ_ J10=>PS ?_));refine IX i qa gV ?_;refine LT 1 oQ (.pointer none) ?_ (hc:=by exact En (by omega));refine tp (H5 rfl oQ rfl rfl) ?_;refine P3 ?_;refine CE Lw (wy (i:=i) (by omega)) ID ?_;refine tq (fP rfl sx rfl rfl) ?_;refine PS ?_;refine nx J10 (CY (ad (P4 ?_)));refine CE Lw (wy (i:=i) (by omega)) ID ?_;refine CR Nt (BR c i a g (by omega) (h.at' i (by omega)).dk) ID λvR HR hR=>?_
 rcases hR with⟨hn,rfl,rfl⟩| ⟨s,rn,dn,hn,rfl,rfl⟩
 refine IX i qa gV ?_;refine bv (i:=1) (aa rfl) rfl rfl rfl rfl rfl gV rfl rfl (by simp only[ct,fB];omega) rfl rfl (ap (af (ac J7 (ad (AD ?_)))));refine PS ?_;refine ap ?_
 exact aI ((i+1,d,r):(Nat)×(Nat→Nat)×(Nat→Nat)) (by omega) (by show 5- (i+1)<5-i;omega)
  SB
  (λ_ q=>by show bC [bT c a g,ag b3 (iv a g r (i+1)) 62,bC ((List.range (i+1)).map (uk a d r)),ag b2 [(.pointer none),(.pointer none),(.pointer none),(.pointer none),(.pointer none)] 62] _;rw[←FQ (by omega) hup hn];exact az [1,1,0,0] rfl (BS ((DJ hup).trans hn) (ak [2,0,0,0] rfl q)))
 refine IX i qa gV ?_;refine bv (i:=2) (aa rfl) rfl rfl rfl rfl rfl gV rfl rfl (by simp only[ct,fB];omega) rfl rfl (ap (af (ac J7 (ad (AD ?_)))));refine PS ?_;refine ap ?_
 exact aI ((i+1,kG d i dn,kG r i rn):(Nat)×(Nat→Nat)×(Nat→Nat)) (by omega) (by show 5- (i+1)<5-i;omega)
  SB
  (λ_ q=>by show bC [bT c a g,ag b3 (iv a g (kG r i rn) (i+1)) 62,bC ((List.range (i+1)).map (uk a (kG d i dn) (kG r i rn))),ag b2 [(.pointer none),(.pointer none),(.pointer none),(.pointer none),(.pointer none)] 62] _;rw[←FP (by omega) hup hn];exact az [1,1,0,0] rfl (HY ((DJ hup).trans hn) (ak [1,2,0,0,0] rfl q)))
 refine IX i qa gV ?_;refine bv (i:=1) (aa rfl) rfl rfl rfl rfl rfl gV rfl rfl (by simp only[ct,fB];omega) rfl rfl (nx J9 (sr λ_ J11=>PS ?_));refine IX i qa gV ?_;refine LT 1 oQ (.pointer (some ⟨(g.r i),0,none⟩)) ?_ (hc:=by exact En (by omega));refine tp (hJ rfl oQ rfl rfl) ?_;refine PS ?_
 iterate 4 refine UF ?_
 refine PS ?_;refine nx J11 (CN (aQ (af (ac J7 (ad (AD ?_))))));refine PS ?_;refine ap ?_
 exact aI ((i+1,d,r):(Nat)×(Nat→Nat)×(Nat→Nat)) (by omega) (by show 5- (i+1)<5-i;omega)
  SB
  (λ_ q=>by show bC [bT c a g,ag b3 (iv a g r (i+1)) 62,bC ((List.range (i+1)).map (uk a d r)),ag b2 [(.pointer none),(.pointer none),(.pointer none),(.pointer none),(.pointer none)] 62] _;rw[←IM (by omega) hup hrun];exact az [1,1,0,0] rfl (BS (by unfold KJ;rw[if_pos hup]) (ak [2,0,0,0] rfl q)))
 refine nx J5 (ab λ_ J12=>CN (aS (ay (ay (bj (ac J3 (sr λ_ J13=>?_)))))));obtain rfl:i=5:=by omega
 refine tp (aM (vs:=iv a g r 5) rfl qa rfl nE rfl (RO 1) fB (by rw[a8,aB (cM fB)])) ?_;exact bF (vs:=iv a g r 5) (i:=3) (aa rfl) rfl rfl rfl rfl rfl (by rw[fB];exact nE) vW rfl rfl (by rw[fB];exact aK _) (fi (Eq.trans (rfl:_=5) (by rw[fB]:(iv a g r 5).length=5).symm)) rfl (nx J13 (ai (xx (H':=[bT c a g,bC ((List.range 5).map (uk a d r))]) rfl rfl qa rfl nE (RO 3) (by rw[fB]) (λ_ s=>ak [0,1] rfl s) ⟨r,d,rfl,rfl⟩)))
section
variable {P:Program} {n:Nat} {D:List Deferred} {L:List (Nat×Value)} {S:World→Prop} {o:Oper} {t t':TypeId} {x y:Operand} {a:CL} {g:CX} {r:Nat→Nat} {j:Nat}
theorem PV.seenNil(ho:o.op= .binOp .eql t x y t')(hu:P.underlying t=some (.pointer (P.pointee t)))(hx:cy L x=some (j5 a g r j))(hy:cy L y=some (.pointer none)):PV P n D L S o (.bool (!(iP a j).isSome)):=by
 cases hs:iP a j with
 |none=>rw[qE hs]at hx;exact H5 ho hu hx hy
 |some s=>rw[fI hs]at hx;exact hJ ho hu hx hy
abbrev MM:= @PV.seenNil
theorem PV.seenNot(ho:o.op= .binOp .neq t x y t')(hu:P.underlying t=some (.pointer (P.pointee t)))(hx:cy L x=some (j5 a g r j))(hy:cy L y=some (.pointer none)):PV P n D L S o (.bool (iP a j).isSome):=by
 cases hs:iP a j with
 |none=>rw[qE hs]at hx;exact gF ho hu hx hy
 |some s=>rw[fI hs]at hx;exact fP ho hu hx hy
end
theorem rF{n:Nat}{a:CL}(h:CLOk n a){j:Nat}(hj:j<5){s:MS LD}(hs:iP a j=some s):OkR KD s:=by
 unfold iP at hs;split at hs
 · exact((h.at' j hj).run s hs).1
 · exact(sQ hj (At (h.at' j hj).dk.ok.s) hs).1
theorem Mw{s:MS LD}(h:OkR KD s)(w:Int):WF (c7 s.mirror w).flat:=by
 unfold c7;split
 · exact(h.mir _ _).wf
 · exact H7 OkRow.zero
theorem Nf:(Tryz.prog.info? 121).map (·.zero)=some (some (.agg (ints BookT.zero.flat).toArray)):=by kernel_rfl
theorem tm(c n:Nat)(a:CL)(g:CX)(h:CLOk n a):
 DT 38 #[(.pointer (some ⟨c,0,none⟩))] T0 [bT c a g] (c9 (λv H=>∃(b:Nat) (d r:Nat→Nat),v= .pointer (some ⟨b,0,none⟩)∧H=[bT c a g,nu a d r,ag b (ints (bp a).flat) 121])):=by
 refine BD 33 Tryz.func38 rfl rfl rfl λw0 F hF=>sr λ_ J1=>PS ?_
 refine nx J1 (sr λ_ J2=>XZ Nf (ints BookT.zero.flat) λb9=>?_);refine PS ?_;refine nx J2 (ab λ_ J3=>sr λ_ J4=>PS ?_);refine CR IJ (kx c n a g h) (SM [1]) λvR HR hR=>?_
 obtain⟨r,d,rfl,rfl⟩:=hR;refine PS ?_;refine nx J4 (aq ?_)
 refine bn (α:=(Nat)) (λj=>j≤5) (λj=>[(2,(.pointer none)),(3,(.pointer (some ⟨b9,0,none⟩))),(11,(.agg (iv a g r 5).toArray)),(12,(.int .i64 (((j:Nat):Int))))]) (λj=>[bT c a g,nu a d r,ag b9 (ints (ix a j).flat) 121]) (λj=>5-j) 0
  (aN _) SB
  (λ_ q=>az [0,0,0] rfl q) (λj hinv=>?_)
 obtain hj:=hinv;refine sr λ_ J5=>PS ?_
 refine an ?_ ?_<;>intro h13;refine nx J5 (ab λ_ J6=>CY (qx J6 (ab λ_ J7=>aq (sr λ_ J8=>tp (kE (cs:=iv a g r 5) (v:=(j5 a g r j)) (r:=j) rfl qa oQ rfl gV rfl rfl (by omega) (by omega) (by omega) (jE (by omega))) ?_))));refine PS ?_;refine nx J8 (ab λ_ J9=>sr λ_ J10=>PS ?_);refine tp (MM rfl oQ rfl rfl) ?_;refine aW ?_ ?_<;>intro h16;refine nx J10 (CY (aS (ay (bj (ac J7 (ad (AD ?_)))))));refine PS ?_;refine ap ?_
 exact aI ((j+1):(Nat)) (by omega) (by show 5- (j+1)<5-j;omega)
  SB
  (λ_ q=>by show bC [bT c a g,nu a d r,ag b9 (ints (ix a (j+1)).flat) 121] _;rw[yQ (by simpa using h16)];exact q)
 obtain⟨s,hs⟩:=Option.isSome_iff_exists.1 (by simpa using h16);have hsk:=rF h (by omega) hs;rw[fI hs];refine nx J10 (CN (qx J9 (sr λ_ J11=>PS ?_)));refine nx J11 (aq ?_)
 refine bn (α:=(Nat)) (λi=>i≤5) (λi=>[(2,(.pointer none)),(3,(.pointer (some ⟨b9,0,none⟩))),(5,(.pointer (some ⟨(mC a g r j),0,none⟩))),(11,(.agg (iv a g r 5).toArray)),(12,(.int .i64 (((j:Nat):Int)))),(17,(.int .i64 (((i:Nat):Int))))]) (λi=>[bT c a g,nu a d r,ag b9 (ints (rW s (ix a j) i).flat) 121]) (λi=>5-i) 0
  (aN _) SB
  (λ_ s=>s) (λi hinv=>?_)
 obtain hi:=hinv;refine sr λ_ J12=>PS ?_
 refine an ?_ ?_<;>intro h18;refine nx J12 (ab λ_ J13=>CY (qx J13 (ab λ_ J14=>aq (sr λ_ J15=>P2 ?_))));refine nx J15 (sr λ_ J16=>P2 ?_);refine CE NF (na (i:=j) (args:=λr=>#[.pointer (some ⟨r,0,none⟩), .int .i64 ((i:Nat):Int)]) (Q:=λv=>v= .tuple #[.agg (ints (c7 s.mirror ((i:Nat):Int)).flat).toArray, .bool (e8 s.mirror ((i:Nat):Int))]) (by omega) hs (λd r=>FO s d r ((i:Nat):Int))) ID ?_;refine P3 ?_;refine XZ tk (ints RowT.zero.flat) λb7=>?_
 refine SW 0 aZ ah ?_;refine PS ?_;refine nx J16 (ad (P2 ?_));refine LW 0 dN aZ ah ?_;refine CE IG (kA b9 0 121 (λx=>ints x.flat) Arnd.whole (rW s (ix a j) i) ((i:Nat):Int) (c7 s.mirror ((i:Nat):Int)) (Mw hsk _)) (SM [3]) ?_;refine ap (af (ac J14 (ad (AD ?_))));refine PS ?_;refine ap ?_
 exact aI ((i+1):(Nat)) (by omega) (by show 5- (i+1)<5-i;omega)
  SB
  (λ_ q=>ak [2,2,0] rfl q)
 refine nx J12 (ab λ_ J17=>CN (aS (ay (ay (bj (af (ac J7 (ad (AD ?_)))))))));refine PS ?_;refine ap ?_
 exact aI ((j+1):(Nat)) (by omega) (by show 5- (j+1)<5-j;omega)
  SB
  (λ_ q=>by show bC [bT c a g,nu a d r,ag b9 (ints (ix a (j+1)).flat) 121] _;rw[yP hs,show 5=i by omega];exact q)
 refine nx J5 (ab λ_ J18=>CN (aS (ay (ay (bj (ac J3 (sr λ_ J19=>P2 ?_)))))));exact nx J19 (ai (aF (H':=[bT c a g,nu a d r,ag b9 (ints (bp a).flat) 121]) (dh _) (λ_ q=>by rw[show j=5 by omega]at q;exact q) (au rfl rfl ⟨b9,d,r,rfl,rfl⟩)))
theorem vZ(c n:Nat)(a:CL)(g:CX)(h:CLOk n a):
 DT 44 #[(.pointer (some ⟨c,0,none⟩))] T0 [bT c a g] (c9 (λv H=>∃d r:Nat→Nat,v= .agg (ints (eT a).flat).toArray∧H=[bT c a g,nu a d r])):=by
 refine BD 31 Tryz.func44 rfl rfl rfl λw0 F hF=>sr λ_ J1=>XZ re (ints ViewT.zero.flat) λb2=>?_
 refine nx J1 (sr λ_ J2=>CE Kv (qS) ID ?_);refine XZ re (ints ViewT.zero.flat) λb3=>?_
 refine SW 0 bc am ?_;refine PS ?_;refine nx J2 (ab λ_ J3=>sr λ_ J4=>PS ?_);refine CR IJ (kx c n a g h) (SM [2]) λvR HR hR=>?_
 obtain⟨r,d,rfl,rfl⟩:=hR;refine PS ?_;refine nx J4 (aq ?_)
 refine bn (α:=(Nat)) (λj=>j≤5) (λj=>[(2,(.pointer (some ⟨b2,0,none⟩))),(3,(.pointer (some ⟨b3,0,none⟩))),(4,(.bool ((fJ a j).2))),(9,(.agg (iv a g r 5).toArray)),(10,(.int .i64 (((j:Nat):Int))))]) (λj=>[bT c a g,nu a d r,ag b3 (ints ((fJ a j).1).flat) 44,ag b2 (ints ViewT.zero.flat) 44]) (λj=>5-j) 0
  (aN _) SB
  (λ_ s=>s) (λj hinv=>?_)
 obtain hj:=hinv;refine sr λ_ J5=>PS ?_
 refine an ?_ ?_<;>intro h11;refine nx J5 (ab λ_ J6=>CY (qx J6 (ab λ_ J7=>aq (sr λ_ J8=>tp (kE (cs:=iv a g r 5) (v:=(j5 a g r j)) (r:=j) rfl qa oQ rfl gV rfl rfl (by omega) (by omega) (by omega) (jE (by omega))) ?_))));refine PS ?_;refine nx J8 (ab λ_ J9=>D1 2 df ?_);refine PD 0 ?_;refine ta 1 rfl (PV.seenNot rfl oQ rfl rfl) ?_;refine kM ?_ ?_<;>intro h14;obtain⟨s,hs⟩:=Option.isSome_iff_exists.1 h14;have hsk:=rF h (by omega) hs;rw[fI hs];refine PD 2 ?_;refine PD 3 ?_;refine kM ?_ ?_<;>intro h16;refine PD 4 ?_;refine PD 5 ?_;refine PD 6 ?_;refine FD 9 0 eE aP ?_;refine LX 10 Y3 (.int .i64 (((fJ a j).1).epoch)) ?_ (hc:=by exact ba _ rfl);refine AL 7 ?_;refine CE G5 (na (i:=j) (args:=λr=>#[.pointer (some ⟨r,0,none⟩)]) (Q:=λv=>v= .agg (ints s.view.flat).toArray) (by omega) hs (λd r=>mw s d r)) ID ?_;refine EN (tb 8 rfl (PV.field1 (cs:=ints s.view.flat) (v:=Value.int .i64 s.view.epoch) rfl eE rfl Y3 rfl rfl (ba s.view rfl)) ?_);refine PD 11 ?_;refine gR ?_ ?_<;>intro h24;refine PD 12 ?_;refine PD 13 ?_;refine DN (ac J9 (CY (ad (PS ?_))));refine CE G5 (na (i:=j) (args:=λr=>#[.pointer (some ⟨r,0,none⟩)]) (Q:=λv=>v= .agg (ints s.view.flat).toArray) (by omega) hs (λd r=>mw s d r)) ID ?_;refine SW 2 bc am ?_;refine PS ?_;refine ap (af (ac J7 (ad (AD ?_))));refine PS ?_;refine ap ?_
 exact aI ((j+1):(Nat)) (by omega) (by show 5- (j+1)<5-j;omega)
  (aL (aL (bd rfl (by rw[j8 hs,if_pos (.inr h24)]) SB)))
  (λ_ q=>by show bC [bT c a g,nu a d r,ag b3 (ints (fJ a (j+1)).1.flat) 44,ag b2 (ints ViewT.zero.flat) 44] _;rw[j8 hs,if_pos (.inr h24)];exact ak [0,0,0,0] rfl q)
 refine PD 12 ?_;refine PD 13 ?_;refine DN (ac J9 (CN (aQ (af (ac J7 (ad (AD ?_)))))));refine PS ?_;refine ap ?_
 exact aI ((j+1):(Nat)) (by omega) (by show 5- (j+1)<5-j;omega)
  (aL (aL (bd rfl (by rw[tN hs (by simpa using h16) h24]) SB)))
  (λ_ q=>by show bC [bT c a g,nu a d r,ag b3 (ints (fJ a (j+1)).1.flat) 44,ag b2 (ints ViewT.zero.flat) 44] _;rw[tN hs (by simpa using h16) h24];exact ak [0,0,0,0] rfl q)
 refine PD 4 ?_;refine PD 5 ?_;refine NT 6 ?_;refine NT 7 ?_;refine NT 8 ?_;refine NT 9 ?_;refine NT 10 ?_;refine NT 11 ?_;refine PD 12 ?_;refine PD 13 ?_;refine DN (ac J9 (CY (ad (PS ?_))));refine CE G5 (na (i:=j) (args:=λr=>#[.pointer (some ⟨r,0,none⟩)]) (Q:=λv=>v= .agg (ints s.view.flat).toArray) (by omega) hs (λd r=>mw s d r)) ID ?_;refine SW 2 bc am ?_;refine PS ?_;refine ap (af (ac J7 (ad (AD ?_))));refine PS ?_;refine ap ?_
 exact aI ((j+1):(Nat)) (by omega) (by show 5- (j+1)<5-j;omega)
  (aL (aL (bd rfl (by rw[j8 hs,if_pos (.inl (by simpa using h16))]) SB)))
  (λ_ q=>by show bC [bT c a g,nu a d r,ag b3 (ints (fJ a (j+1)).1.flat) 44,ag b2 (ints ViewT.zero.flat) 44] _;rw[j8 hs,if_pos (.inl (by simpa using h16))];exact ak [0,0,0,0] rfl q)
 refine PD 2 ?_;refine NT 3 ?_;refine NT 4 ?_;refine NT 5 ?_;refine tZ (i:=6) (b:=false) rfl (by kernel_rfl) (by kernel_rfl) (by kernel_rfl) (λ_ _ _ _ h=>h) rfl rfl rfl rfl rfl (tZ (i:=7) (b:=false) rfl (by kernel_rfl) (by kernel_rfl) (by kernel_rfl) (λ_ _ _ _ h=>h) rfl rfl rfl rfl rfl (tZ (i:=8) (b:=false) rfl (by kernel_rfl) (by kernel_rfl) (by kernel_rfl) (λ_ _ _ _ h=>h) rfl rfl rfl rfl rfl (tZ (i:=9) (b:=false) rfl (by kernel_rfl) (by kernel_rfl) (by kernel_rfl) (λ_ _ _ _ h=>h) rfl rfl rfl rfl rfl (tZ (i:=10) (b:=false) rfl (by kernel_rfl) (by kernel_rfl) (by kernel_rfl) (λ_ _ _ _ h=>h) rfl rfl rfl rfl rfl (tZ (i:=11) (b:=false) rfl (by kernel_rfl) (by kernel_rfl) (by kernel_rfl) (λ_ _ _ _ h=>h) rfl rfl rfl rfl rfl (NT 12 ?_))))));refine PD 13 ?_;refine DN (ac J9 (CN (aQ (af (ac J7 (ad (AD ?_)))))));refine PS ?_;refine ap ?_
 exact aI ((j+1):(Nat)) (by omega) (by show 5- (j+1)<5-j;omega)
  (aL (aL (bd rfl (by rw[pG (by simpa using h14)]) SB)))
  (λ_ q=>by show bC [bT c a g,nu a d r,ag b3 (ints (fJ a (j+1)).1.flat) 44,ag b2 (ints ViewT.zero.flat) 44] _;rw[pG (by simpa using h14)];exact ak [0,0,0,0] rfl q)
 refine nx J5 (ab λ_ J10=>CN (aS (ay (ay (bj (ac J3 (sr λ_ J11=>LW 2 eE bc am ?_)))))));refine SW 3 bc am ?_;refine nx J11 (ai (RC 3 [0,0] eE bc (am _) ?_));exact⟨d,r,by rw[show j=5 by omega];rfl,rfl⟩
def nM(v:ViewT)(k:Nat):List Int:=(List.range 5).map λj=>if j<k then sY v j else 0
theorem lp(v:ViewT)(k:Nat):(ints (nM v k)).length=5:=by simp[nM,ints]
theorem A4{v:ViewT}{i:Nat}(hi:i<5):(ints (nM v i)).set i (.int .i64 (sY v i))=ints (nM v (i+1)):=by
 refine List.ext_getElem? λj=>?_
 unfold nM ints
 by_cases hj:j=i
 · subst hj
   rw[List.getElem?_set_self (by simp;omega),List.getElem?_map,List.getElem?_map,List.getElem?_range hi];simp
 · rw[List.getElem?_set_ne (λe=>hj e.symm),List.getElem?_map,List.getElem?_map,List.getElem?_map,List.getElem?_map]
   by_cases h5:j<5
   · rw[List.getElem?_range h5]
     simp only[Option.map_some]
     by_cases h:j<i
     · rw[if_pos h,if_pos (by omega)]
     · rw[if_neg h,if_neg (by omega)]
   · rw[List.getElem?_eq_none (by rw[kN];omega)];rfl
theorem G0{v:ViewT}{j:Nat}(hj:j<5):(ints (nM v 5))[j]?=some (.int .i64 (sY v j)):=by
 unfold nM ints;rw[List.getElem?_map,List.getElem?_map,List.getElem?_range hj];simp[hj]
theorem FH{v:ViewT}{i:Nat}(hi:i<5)(h: ¬(jv v ((i:Nat):Int)).isSome=true):(ints (nM v i)).set i (.int .i64 ((i:Nat):Int))=ints (nM v (i+1)):=by
 rw[←A4 hi];unfold sY;rw[show jv v ((i:Nat):Int)=none by simpa using h];rfl
theorem FG{v:ViewT}{i:Nat}(hi:i<5)(h:(jv v ((i:Nat):Int)).isSome=true):((ints (nM v i)).set i (.int .i64 ((i:Nat):Int))).set i (.int .i64 ((jv v ((i:Nat):Int)).getD 0))=ints (nM v (i+1)):=by
 rw[←A4 hi,gT];unfold sY;obtain⟨x,hx⟩:=Option.isSome_iff_exists.1 h;rw[hx];rfl
theorem zg(v:ViewT)(hh:Rng v):
 DT 45 #[(.agg (ints v.flat).toArray)] T0 [] (RI (.agg (ints (nM v 5)).toArray) []):=by
 refine BD 25 Tryz.func45 rfl rfl rfl λw0 F hF=>sr λ_ J1=>XY (ints v.flat) λb1=>?_
 refine XZ M6 (ints (#v[0,0,0,0,0]).toList) λb2=>?_
 refine nx J1 (sr λ_ J2=>XZ M6 (ints (#v[0,0,0,0,0]).toList) λb3=>?_);refine nx J2 (ab λ_ J3=>sr λ_ J4=>PS ?_);refine nx J4 (aq ?_)
 refine bn (α:=(Nat)) (λi=>i≤5) (λi=>[(1,(.pointer (some ⟨b1,0,none⟩))),(2,(.pointer (some ⟨b2,0,none⟩))),(3,(.pointer (some ⟨b3,0,none⟩))),(7,(.int .i64 (((i:Nat):Int))))]) (λi=>[ag b3 (ints (nM v i)) 42,ag b1 (ints v.flat) 44,ag b2 (ints (#v[0,0,0,0,0]).toList) 42]) (λi=>5-i) 0
  (aN _) SB
  (λ_ s=>ak [0,1,0] rfl s) (λi hinv=>?_)
 obtain hi:=hinv;refine sr λ_ J5=>PS ?_
 refine an ?_ ?_<;>intro h8;refine nx J5 (ab λ_ J6=>CY (qx J6 (ab λ_ J7=>aq (sr λ_ J8=>P2 ?_))));refine nx J8 (sr λ_ J9=>P2 ?_);refine IX i jz aP ?_;refine bv (i:=0) (aa rfl) rfl rfl rfl rfl rfl aP rfl rfl (by simp only[ct,lp];omega) rfl rfl (nx J9 (sr λ_ J10=>LW 1 eE bc am ?_));refine PS ?_;refine CE IH (p5 v ((i:Nat):Int) hh) ID ?_;refine P3 ?_;refine aW ?_ ?_<;>intro h18;refine P2 ?_;refine nx J10 (sr λ_ J11=>PS ?_);refine nx J11 (CY (ad (P2 ?_)));refine IX i jz aP ?_;refine bv (i:=0) (aa rfl) rfl rfl rfl rfl rfl aP rfl rfl (by simp only[ct,lp];omega) rfl rfl (ap (af (ac J7 (ad (AD ?_)))));refine PS ?_;refine ap ?_
 exact aI ((i+1):(Nat)) (by omega) (by show 5- (i+1)<5-i;omega)
  SB
  (λ_ q=>by show bC [ag b3 (ints (nM v (i+1))) 42,ag b1 (ints v.flat) 44,ag b2 (ints (#v[0,0,0,0,0]).toList) 42] _;rw[←FG (by omega) h18];exact ak [0,0,0] rfl q)
 refine P2 ?_;refine nx J10 (sr λ_ J12=>PS ?_);refine nx J12 (CN (aQ (af (ac J7 (ad (AD ?_))))));refine PS ?_;refine ap ?_
 exact aI ((i+1):(Nat)) (by omega) (by show 5- (i+1)<5-i;omega)
  SB
  (λ_ q=>by show bC [ag b3 (ints (nM v (i+1))) 42,ag b1 (ints v.flat) 44,ag b2 (ints (#v[0,0,0,0,0]).toList) 42] _;rw[←FH (by omega) (by simpa using h18)];exact ak [0,0,0] rfl q)
 refine nx J5 (ab λ_ J13=>CN (aS (ay (ay (bj (ac J3 (sr λ_ J14=>?_)))))));obtain rfl:i=5:=by omega
 refine tp (aM (vs:=ints (nM v 5)) rfl jz rfl eQ rfl (RO 0) (lp _ _) (by rw[a8,aB (cM (lp _ _))])) ?_;exact bF (vs:=ints (nM v 5)) (i:=2) (aa rfl) rfl rfl rfl rfl rfl (by rw[lp];exact eQ) (bu _) rfl rfl (by rw[lp];exact aK _) (fi (by rw[lp];rfl)) rfl (nx J14 (ai (xx (H':=[]) rfl rfl jz rfl eQ (RO 2) (by rw[lp _ _]) (λ_ s=>ak [] rfl s) ⟨rfl,rfl⟩)))
theorem Hw{S:List Int}{o k:Nat}(ho:o=k)(h:k<S.length):(ints S)[o]?=some (.int .i64 (S.getD k 0)):=by
 subst ho;simp[ints,List.getD_eq_getElem?_getD,h]
theorem Hv{S:List Int}{o k:Nat}{x:Int}(ho:o=k):(ints S).set o (.int .i64 x)=ints (S.set k x):=by
 subst ho;simp[ints,xI]
theorem HO{B:BookT}{key:Int}{i o:Nat}(k:Nat)(hi:i<5)(ho:o=i*7+k)(hk:k<7){r:Option Value}(hr:(ints (ib B key i).flat)[k]?=r):(ints ((jX B key 5).toList.flatMap CellT.flat))[o]?=r:=
 nA br (jX B key 5) k hi ho hk (by rw[HN hi];exact hr)
theorem BM{B:BookT}{key:Int}{i j o:Nat}(hi:i<5)(hj:j<5)(ho:o=i*7+(2+j)):(ints ((jX B key 5).toList.flatMap CellT.flat))[o]?=some (.int .i64 ((ib B key i).given.toList.getD j 0)):=
 HO (2+j) hi ho (by omega) (by simp[CellT.flat,ints,List.getElem?_cons_succ,show 2+j=j+1+1 by omega,List.getD_eq_getElem?_getD,hj])
theorem MJ{B:BookT}{key:Int}{i o:Nat}(hi:i<5)(ho:o=i*7):wr (ints ((jX B key i).toList.flatMap CellT.flat)) o (ints (ib B key i).flat)=ints ((jX B key (i+1)).toList.flatMap CellT.flat):=by
 have h:=tl br (jX B key i) (i:=i) (o:=o) 0 (vs:=ints (ib B key i).flat) (u':=ib B key i) hi (by omega) (by rw[bk,bm];exact aK _) (cm ((bm _).trans (bm _).symm))
 rwa [HM hi]at h
theorem KG{B:BookT}{key:Int}{k:Nat}:(ints ((jX B key k).toList.flatMap CellT.flat)).length=35:=by
 rw[wm br,aA]
theorem wc{n:Nat}{a:CL}(h:CLOk n a): ∀j,j≤5→Rng (fJ a j).1
 |0,_=>Rng.first
 |j+1,hj=>by
  have ih:=wc h j (by omega);rcases hs:iP a j with _|s
  · rw[pG hs];exact ih
  · have hk:=rF h (by omega) hs
    rw[j8 hs];split
    · exact hk.view.rng
    · exact ih
theorem FU{n:Nat}{a:CL}(h:CLOk n a):Rng (eT a):=wc h 5 (aK _)
theorem yU(c n:Nat)(a:CL)(g:CX)(h:CLOk n a)(key:Int):
 DT 37 #[(.pointer (some ⟨c,0,none⟩)),(.int .i64 (key))] T0 [bT c a g] (c9 (λv H=>(¬(0≤key∧key<4)∧v= .agg (ints (List.replicate 5 0)).toArray∧H=[bT c a g])∨((0≤key∧key<4)∧∃d r:Nat→Nat,v= .agg (ints (qg (bp a) key (eT a) 5)).toArray∧H=[bT c a g,nu a d r]))):=by
 refine Leg.Does.body (vs:=[(.pointer (some ⟨c,0,none⟩)),(.int .i64 (key))]) (n:=82) Tryz.func37 rfl rfl rfl (λw0 F hF=>?_);refine ab (λK1 hK1=>?_);refine ad ?_;refine lA (aa rfl) rfl rfl rfl M6 (λb4=>?_);change TL _ _ _ _ _ _ _ _ _ [ag b4 (ints (#v[0,0,0,0,0]).toList) 42,bT c a g];refine ap ?_;refine ac hK1 ?_;clear hK1;refine ab (λK2 hK2=>?_);refine ad ?_;refine lA (aa rfl) rfl rfl rfl M6 (λb5=>?_);change TL _ _ _ _ _ _ _ _ _ [ag b5 (ints (#v[0,0,0,0,0]).toList) 42,ag b4 (ints (#v[0,0,0,0,0]).toList) 42,bT c a g];refine ap ?_;refine ac hK2 ?_;clear hK2;refine ab (λK3 hK3=>?_);refine ab (λK4 hK4=>?_);refine ad ?_;refine dm (aa rfl) rfl rfl (cj rfl rfl) ?_;refine dm (aa rfl) rfl rfl (Jh rfl rfl rfl) ?_;refine an (λh13=>?_) (λh13=>?_)
 · skip
   refine dm (aa rfl) rfl rfl (cj rfl rfl) ?_;refine kB (b:=true) rfl rfl rfl rfl (lb rfl) ?_;refine kB (b:=true) rfl rfl rfl rfl (lb rfl) ?_;refine dm (aa rfl) rfl rfl (lT rfl rfl rfl) ?_;refine ap ?_;refine ac hK4 ?_;clear hK4;refine iG rfl ?_;refine ab (λK5 hK5=>?_);refine ad ?_;refine dm (aa rfl) rfl rfl (aM (vs:=ints (#v[0,0,0,0,0]).toList) rfl jz rfl eQ rfl (dG 0 rfl rfl) (dP (#v[0,0,0,0,0])) (whole (dP (#v[0,0,0,0,0])))) ?_;refine bF (vs:=ints (#v[0,0,0,0,0]).toList) (i:=1) (H':=[ag b5 (ints (#v[0,0,0,0,0]).toList) 42,ag b4 (ints (#v[0,0,0,0,0]).toList) 42,bT c a g]) (aa rfl) rfl rfl rfl rfl rfl (by rw[(dP (#v[0,0,0,0,0]))];exact eQ) (bu _) rfl rfl (by have h0:=(dP (#v[0,0,0,0,0]));have h1:=(dP (#v[0,0,0,0,0]));omega) (cm ((dP (#v[0,0,0,0,0])).trans (dP (#v[0,0,0,0,0])).symm)) rfl ?_;refine ap ?_;refine ac hK5 ?_;clear hK5;refine ai ?_;refine ae ?_;clear hK3;refine xx (H':=[bT c a g]) rfl rfl jz rfl eQ (dG 1 rfl rfl) (dP (#v[0,0,0,0,0])) (λ_ s=>ak [2] rfl s) ?_;exact .inl ⟨by omega,rfl,rfl⟩
 · skip
   refine dm (aa rfl) rfl rfl (cj rfl rfl) ?_;refine dm (bM rfl rfl rfl) rfl rfl (cj rfl rfl) ?_;refine dm (bM rfl rfl rfl) rfl rfl (PV.geq rfl rfl rfl) ?_;refine an (λh16=>?_) (λh16=>?_)
   · skip
     refine dm (aa rfl) rfl rfl (lT rfl rfl rfl) ?_;refine ap ?_;refine ac hK4 ?_;clear hK4;refine iG rfl ?_;refine ab (λK6 hK6=>?_);refine ad ?_;refine dm (aa rfl) rfl rfl (aM (vs:=ints (#v[0,0,0,0,0]).toList) rfl jz rfl eQ rfl (dG 0 rfl rfl) (dP (#v[0,0,0,0,0])) (whole (dP (#v[0,0,0,0,0])))) ?_;refine bF (vs:=ints (#v[0,0,0,0,0]).toList) (i:=1) (H':=[ag b5 (ints (#v[0,0,0,0,0]).toList) 42,ag b4 (ints (#v[0,0,0,0,0]).toList) 42,bT c a g]) (aa rfl) rfl rfl rfl rfl rfl (by rw[(dP (#v[0,0,0,0,0]))];exact eQ) (bu _) rfl rfl (by have h0:=(dP (#v[0,0,0,0,0]));have h1:=(dP (#v[0,0,0,0,0]));omega) (cm ((dP (#v[0,0,0,0,0])).trans (dP (#v[0,0,0,0,0])).symm)) rfl ?_;refine ap ?_;refine ac hK6 ?_;clear hK6;refine ai ?_;refine ae ?_;clear hK3;refine xx (H':=[bT c a g]) rfl rfl jz rfl eQ (dG 1 rfl rfl) (dP (#v[0,0,0,0,0])) (λ_ s=>ak [2] rfl s) ?_;exact .inl ⟨by omega,rfl,rfl⟩
   · skip
     refine dm (aa rfl) rfl rfl (lT rfl rfl rfl) ?_;refine ap ?_;refine ac hK4 ?_;clear hK4;refine sz rfl ?_;refine aQ ?_;refine ac hK3 ?_;clear hK3;refine ab (λK7 hK7=>?_);refine ad ?_;refine dm (aa rfl) rfl rfl (cj rfl rfl) ?_;refine gP (A:=[bT c a g]) (B:=[ag b5 (ints (#v[0,0,0,0,0]).toList) 42,ag b4 (ints (#v[0,0,0,0,0]).toList) 42]) (aa rfl) rfl rfl rfl LJ rfl (tm c n a g h) (λ_ s=>az [2] rfl s) (λ_ _ _=>trivial) (λvR HR hR=>?_);obtain⟨bt,d,r,rfl,rfl⟩:=hR;change TL _ _ _ _ _ _ _ _ _ [bT c a g,nu a d r,ag bt (ints (bp a).flat) 121,ag b5 (ints (#v[0,0,0,0,0]).toList) 42,ag b4 (ints (#v[0,0,0,0,0]).toList) 42];refine dm (aa rfl) rfl rfl (oT rfl rfl) ?_;refine ap ?_;refine ac hK7 ?_;clear hK7;refine ab (λK8 hK8=>?_);refine ad ?_;refine lA (aa rfl) rfl rfl rfl KX (λb7=>?_);change TL _ _ _ _ _ _ _ _ _ [ag b7 (ints ((#v[CellT.zero,CellT.zero,CellT.zero,CellT.zero,CellT.zero]).toList.flatMap CellT.flat)) 132,bT c a g,nu a d r,ag bt (ints (bp a).flat) 121,ag b5 (ints (#v[0,0,0,0,0]).toList) 42,ag b4 (ints (#v[0,0,0,0,0]).toList) 42];refine ap ?_;refine ac hK8 ?_;clear hK8;refine ab (λK9 hK9=>?_);refine ab (λK10 hK10=>?_);refine ad ?_;refine dm (aa rfl) rfl rfl (cj rfl rfl) ?_;refine ap ?_;refine ac hK10 ?_;clear hK10;refine aq ?_
     refine bn (α:=(Nat)) (λi=>i≤5) (λi=>[(0,(.pointer (some ⟨c,0,none⟩))),(1,(.int .i64 (key))),(4,(.pointer (some ⟨b4,0,none⟩))),(5,(.pointer (some ⟨b5,0,none⟩))),(6,(.pointer (some ⟨bt,0,none⟩))),(7,(.pointer (some ⟨b7,0,none⟩))),(21,(.int .i64 (((i:Nat):Int))))]) (λi=>[bT c a g,nu a d r,ag bt (ints (bp a).flat) 121,ag b7 (ints ((jX (bp a) key i).toList.flatMap CellT.flat)) 132,ag b5 (ints (#v[0,0,0,0,0]).toList) 42,ag b4 (ints (#v[0,0,0,0,0]).toList) 42]) (λi=>5-i) 0
      (aN _) (aL (aL (aL (aL (aL (aL (bd rfl (by congr 1) (mU _))))))))
      (λ_ s=>ak [1,1,1,0,0,0] rfl s) (λi hinv=>?_)
     obtain hi:=hinv;refine ab (λK11 hK11=>?_);refine ad ?_;refine dm (aa rfl) rfl rfl (Jh rfl rfl rfl) ?_;refine an (λh22=>?_) (λh22=>?_)
     · skip
       refine ap ?_;refine ac hK11 ?_;clear hK11;refine ab (λK12 hK12=>?_);refine iG rfl ?_;refine aQ ?_;refine ac hK12 ?_;clear hK12;refine ab (λK13 hK13=>?_);refine aq ?_;refine ab (λK14 hK14=>?_);refine ad ?_;refine dm (aa rfl) rfl rfl (cj rfl rfl) ?_;refine dm (aa rfl) rfl rfl (oT rfl rfl) ?_;refine ap ?_;refine ac hK14 ?_;clear hK14;refine ad ?_;refine dm (aa rfl) rfl rfl (cj rfl rfl) ?_;refine dm (aa rfl) rfl rfl (cj rfl rfl) ?_;refine dm (aa rfl) rfl rfl (cj rfl rfl) ?_;refine dm (aa rfl) rfl rfl (cj rfl rfl) ?_;refine gP (A:=[ag bt (ints (bp a).flat) 121]) (B:=[bT c a g,nu a d r,ag b7 (ints ((jX (bp a) key i).toList.flatMap CellT.flat)) 132,ag b5 (ints (#v[0,0,0,0,0]).toList) 42,ag b4 (ints (#v[0,0,0,0,0]).toList) 42]) (aa rfl) rfl rfl rfl Kp rfl (nt bt 0 121 (λx=>ints x.flat) Arnd.whole (bp a) ((i:Nat):Int) key) (λ_ s=>az [2] rfl s) (λ_ _ _=>trivial) (λvR HR hR=>?_);obtain⟨rfl,rfl⟩:=hR;change TL _ _ _ _ _ _ _ _ _ [ag bt (ints (bp a).flat) 121,bT c a g,nu a d r,ag b7 (ints ((jX (bp a) key i).toList.flatMap CellT.flat)) 132,ag b5 (ints (#v[0,0,0,0,0]).toList) 42,ag b4 (ints (#v[0,0,0,0,0]).toList) 42];refine dm (aa rfl) rfl rfl (eF (r:=i*7) rfl xv fp rfl rfl (by omega) (by omega) (by omega)) ?_
       refine bF (vs:=ints (ib (bp a) key i).flat) (i:=3) (H':=[ag bt (ints (bp a).flat) 121,bT c a g,nu a d r,ag b7 (ints ((jX (bp a) key (i+1)).toList.flatMap CellT.flat)) 132,ag b5 (ints (#v[0,0,0,0,0]).toList) 42,ag b4 (ints (#v[0,0,0,0,0]).toList) 42]) (aa rfl) rfl rfl rfl rfl rfl (by rw[bm];exact fp) (bu _) rfl rfl (by rw[KG,bm];omega) (MJ (by omega) (by omega)) rfl ?_;refine ap ?_;refine af ?_;refine ac hK13 ?_;clear hK13;refine ad ?_;refine dm (aa rfl) rfl rfl (cg rfl rfl rfl (bH (by omega) (by omega))) ?_;refine dm (aa rfl) rfl rfl (cj rfl rfl) ?_;refine ap ?_
       exact aI ((i+1):(Nat)) (by omega) (by show 5- (i+1)<5-i;omega)
        (aL (aL (aL (aL (aL (aL (bd rfl (by simp) (mU _))))))))
        (λ_ s=>ak [1,1,0,0,0,0] rfl s)
     · skip
       refine ap ?_;refine ac hK11 ?_;clear hK11;refine ab (λK15 hK15=>?_);refine sz rfl ?_;refine aS ?_;refine ay ?_;clear hK15;refine ay ?_;refine bj ?_;refine ac hK9 ?_;clear hK9;refine ab (λK16 hK16=>?_);refine ab (λK17 hK17=>?_);refine ad ?_;obtain rfl:i=5:=by omega
       change TL _ _ _ _ _ _ _ _ _ [bT c a g,nu a d r,ag bt (ints (bp a).flat) 121,ag b7 (ints ((jX (bp a) key 5).toList.flatMap CellT.flat)) 132,ag b5 (ints (qg (bp a) key (eT a) 0)) 42,ag b4 (ints (#v[0,0,0,0,0]).toList) 42];refine dm (aa rfl) rfl rfl (cj rfl rfl) ?_;refine gP (A:=[bT c a g]) (B:=[nu a d r,ag bt (ints (bp a).flat) 121,ag b7 (ints ((jX (bp a) key 5).toList.flatMap CellT.flat)) 132,ag b5 (ints (qg (bp a) key (eT a) 0)) 42,ag b4 (ints (#v[0,0,0,0,0]).toList) 42]) (aa rfl) rfl rfl rfl LH rfl (vZ c n a g h) (λ_ s=>s) (λ_ _ _=>trivial) (λvR HR hR=>?_);obtain⟨d2,r2,rfl,rfl⟩:=hR;change TL _ _ _ _ _ _ _ _ _ [bT c a g,nu a d2 r2,nu a d r,ag bt (ints (bp a).flat) 121,ag b7 (ints ((jX (bp a) key 5).toList.flatMap CellT.flat)) 132,ag b5 (ints (qg (bp a) key (eT a) 0)) 42,ag b4 (ints (#v[0,0,0,0,0]).toList) 42];refine gP (A:=[]) (B:=[bT c a g,nu a d2 r2,nu a d r,ag bt (ints (bp a).flat) 121,ag b7 (ints ((jX (bp a) key 5).toList.flatMap CellT.flat)) 132,ag b5 (ints (qg (bp a) key (eT a) 0)) 42,ag b4 (ints (#v[0,0,0,0,0]).toList) 42]) (aa rfl) rfl rfl rfl NE rfl (zg (eT a) (FU h)) (λ_ s=>s) (λ_ _ _=>trivial) (λvR HR hR=>?_);obtain⟨rfl,rfl⟩:=hR;change TL _ _ _ _ _ _ _ _ _ [bT c a g,nu a d2 r2,nu a d r,ag bt (ints (bp a).flat) 121,ag b7 (ints ((jX (bp a) key 5).toList.flatMap CellT.flat)) 132,ag b5 (ints (qg (bp a) key (eT a) 0)) 42,ag b4 (ints (#v[0,0,0,0,0]).toList) 42]
       refine dm (aa rfl) rfl rfl (cj rfl rfl) ?_;refine ap ?_;refine ac hK17 ?_;clear hK17;refine aq ?_
       refine bn (α:=(Nat)) (λi=>i≤5) (λi=>[(4,(.pointer (some ⟨b4,0,none⟩))),(5,(.pointer (some ⟨b5,0,none⟩))),(7,(.pointer (some ⟨b7,0,none⟩))),(33,(.agg (ints (nM (eT a) 5)).toArray)),(34,(.int .i64 (((i:Nat):Int))))]) (λi=>[bT c a g,nu a d2 r2,ag b7 (ints ((jX (bp a) key 5).toList.flatMap CellT.flat)) 132,ag b5 (ints (qg (bp a) key (eT a) i)) 42,ag b4 (ints (#v[0,0,0,0,0]).toList) 42]) (λi=>5-i) 0
        (aN _) (aL (aL (aL (aL (bd rfl (by congr 1) (mU _))))))
        (λ_ s=>ak [0,0,2,2,2] rfl s) (λi hinv=>?_)
       obtain hi:=hinv;refine ab (λK18 hK18=>?_);refine ad ?_;refine dm (aa rfl) rfl rfl (Jh rfl rfl rfl) ?_;refine an (λh35=>?_) (λh35=>?_)
       · skip
         refine ap ?_;refine ac hK18 ?_;clear hK18;refine ab (λK19 hK19=>?_);refine iG rfl ?_;refine aQ ?_;refine ac hK19 ?_;clear hK19;refine ab (λK20 hK20=>?_);refine aq ?_;refine ab (λK21 hK21=>?_);refine ad ?_;refine dm (aa rfl) rfl rfl (cj rfl rfl) ?_;refine dm (aa rfl) rfl rfl (kE (cs:=ints (nM (eT a) 5)) (v:=(.int .i64 (sY (eT a) i))) (r:=i) rfl jz Y3 rfl aP rfl rfl (by omega) (by omega) (by omega) (G0 (by omega))) ?_;refine dm (aa rfl) rfl rfl (oT rfl rfl) ?_;refine dm (aa rfl) rfl rfl (oT rfl rfl) ?_;refine ap ?_;refine ac hK21 ?_;clear hK21;refine ab (λK22 hK22=>?_);refine ab (λK23 hK23=>?_);refine ad ?_;refine dm (aa rfl) rfl rfl (cj rfl rfl) ?_;refine dm (aa rfl) rfl rfl (Jh rfl rfl rfl) ?_;refine an (λh39=>?_) (λh39=>?_)
         · skip
           refine dm (aa rfl) rfl rfl (cj rfl rfl) ?_;refine kB (b:=true) rfl rfl rfl rfl (lb rfl) ?_;refine kB (b:=true) rfl rfl rfl rfl (lb rfl) ?_;refine dm (aa rfl) rfl rfl (lT rfl rfl rfl) ?_;refine ap ?_;refine ac hK23 ?_;clear hK23;refine iG rfl ?_;refine aS ?_;refine ay ?_;clear hK22;refine bj ?_;refine ac hK20 ?_;clear hK20;refine ad ?_;refine dm (aa rfl) rfl rfl (cg rfl rfl rfl (bH (by omega) (by omega))) ?_;refine dm (aa rfl) rfl rfl (cj rfl rfl) ?_;refine ap ?_
           exact aI ((i+1):(Nat)) (by omega) (by show 5- (i+1)<5-i;omega)
            (aL (aL (aL (aL (bd rfl (by simp) (mU _))))))
            (λ_ q=>by show bC [bT c a g,nu a d2 r2,ag b7 (ints ((jX (bp a) key 5).toList.flatMap CellT.flat)) 132,ag b5 (ints (qg (bp a) key (eT a) (i+1))) 42,ag b4 (ints (#v[0,0,0,0,0]).toList) 42] _;rw[qg,if_neg (by omega)];exact ak [0,0,0,0,0] rfl q)
         · skip
           refine dm (aa rfl) rfl rfl (cj rfl rfl) ?_;refine dm (bM rfl rfl rfl) rfl rfl (cj rfl rfl) ?_;refine dm (bM rfl rfl rfl) rfl rfl (PV.geq rfl rfl rfl) ?_;refine an (λh42=>?_) (λh42=>?_)
           · skip
             refine dm (aa rfl) rfl rfl (lT rfl rfl rfl) ?_;refine ap ?_;refine ac hK23 ?_;clear hK23;refine iG rfl ?_;refine aS ?_;refine ay ?_;clear hK22;refine bj ?_;refine ac hK20 ?_;clear hK20;refine ad ?_;refine dm (aa rfl) rfl rfl (cg rfl rfl rfl (bH (by omega) (by omega))) ?_;refine dm (aa rfl) rfl rfl (cj rfl rfl) ?_;refine ap ?_
             exact aI ((i+1):(Nat)) (by omega) (by show 5- (i+1)<5-i;omega)
              (aL (aL (aL (aL (bd rfl (by simp) (mU _))))))
              (λ_ q=>by show bC [bT c a g,nu a d2 r2,ag b7 (ints ((jX (bp a) key 5).toList.flatMap CellT.flat)) 132,ag b5 (ints (qg (bp a) key (eT a) (i+1))) 42,ag b4 (ints (#v[0,0,0,0,0]).toList) 42] _;rw[qg,if_neg (by omega)];exact ak [0,0,0,0,0] rfl q)
           · skip
             obtain⟨ow,how,hw5⟩: ∃ow:Nat,sY (eT a) i=((ow:Nat):Int)∧ow<5:=⟨(sY (eT a) i).toNat,by omega,by omega⟩;rw[how];refine dm (aa rfl) rfl rfl (lT rfl rfl rfl) ?_;refine ap ?_;refine ac hK23 ?_;clear hK23;refine sz rfl ?_;refine aQ ?_;refine ac hK22 ?_;clear hK22;refine ab (λK24 hK24=>?_);refine lR (λw=>Frm F w∧w.heap[b7]?=some (.cells (ints ((jX (bp a) key 5).toList.flatMap CellT.flat)).toArray 132 (0,0))∧True) df rfl (λ_ s=>⟨dT s,s.block 2 (lb rfl) rfl,trivial⟩) ?_;refine dw (i:=0) rfl (by kernel_rfl) (by kernel_rfl) (by kernel_rfl) (λ_ _ _ _ h=>h) (aa rfl) rfl rfl (cj rfl rfl) ?_;refine dw (i:=1) rfl (by kernel_rfl) (by kernel_rfl) (by kernel_rfl) (λ_ _ _ _ h=>h) (aa rfl) rfl rfl (eF (r:=ow) rfl jz aP rfl rfl (by omega) (by omega) (by omega)) ?_;refine dw (i:=3) rfl (by kernel_rfl) (by kernel_rfl) (by kernel_rfl) (λ_ _ _ _ h=>h) (aa rfl) rfl rfl (cj rfl rfl) ?_;refine dw (i:=4) rfl (by kernel_rfl) (by kernel_rfl) (by kernel_rfl) (λ_ _ _ _ h=>h) (aa rfl) rfl rfl (eF (r:=i*7) rfl xv fp rfl rfl (by omega) (by omega) (by omega)) ?_;refine dw (i:=5) rfl (by kernel_rfl) (by kernel_rfl) (by kernel_rfl) (λ_ _ _ _ h=>h) (aa rfl) rfl rfl (aV (r:=i*7) rfl mp rfl aP rfl rfl) ?_
             refine dw (i:=6) rfl (by kernel_rfl) (by kernel_rfl) (by kernel_rfl) (λ_ _ _ _ h=>h) (aa rfl) rfl rfl (e7 (v:=(.int .i64 ((ib (bp a) key i).inn))) rfl Y3 rfl rfl (λ_ h=>h.2.1) (HO 0 (by omega) (by omega) (by decide) (q9 _ rfl))) ?_;refine dw (i:=7) rfl (by kernel_rfl) (by kernel_rfl) (by kernel_rfl) (λ_ _ _ _ h=>h) (aa rfl) rfl rfl (cj rfl rfl) ?_;refine dw (i:=8) rfl (by kernel_rfl) (by kernel_rfl) (by kernel_rfl) (λ_ _ _ _ h=>h) (aa rfl) rfl rfl (eF (r:=i*7) rfl xv fp rfl rfl (by omega) (by omega) (by omega)) ?_;refine dw (i:=9) rfl (by kernel_rfl) (by kernel_rfl) (by kernel_rfl) (λ_ _ _ _ h=>h) (aa rfl) rfl rfl (aV (r:=i*7+1) rfl mp rfl aP rfl rfl) ?_;refine dw (i:=10) rfl (by kernel_rfl) (by kernel_rfl) (by kernel_rfl) (λ_ _ _ _ h=>h) (aa rfl) rfl rfl (e7 (v:=(.int .i64 ((ib (bp a) key i).out))) rfl Y3 rfl rfl (λ_ h=>h.2.1) (HO 1 (by omega) (by omega) (by decide) (q8 _ rfl))) ?_;refine dw (i:=11) rfl (by kernel_rfl) (by kernel_rfl) (by kernel_rfl) (λ_ _ _ _ h=>h) (aa rfl) rfl rfl (iH (r:=(fM ((ib (bp a) key i).inn- (ib (bp a) key i).out))) rfl rfl rfl rfl) ?_;refine cw [2] (by kernel_rfl) rfl ?_;refine aE rfl ?_ ?_
             · skip
               refine dm (aa rfl) rfl rfl (e7 (v:=(.int .i64 ((qg (bp a) key (eT a) i).getD ow 0))) rfl Y3 rfl rfl (dG 3 rfl rfl) (Hw (by omega) (by simp only[GF,Kb,ct,p1,je,ir];omega))) ?_;refine ap ?_;refine mT (λ_ s=>⟨dT s,s.block 2 (lb rfl) rfl,trivial⟩) ?_;refine dw (i:=12) rfl (by kernel_rfl) (by kernel_rfl) (by kernel_rfl) (λ_ _ _ _ h=>h) (aa rfl) rfl rfl (cg (r:=(fM ((qg (bp a) key (eT a) i).getD ow 0+fM ((ib (bp a) key i).inn- (ib (bp a) key i).out)))) rfl rfl rfl rfl) ?_;refine dw (i:=13) rfl (by kernel_rfl) (by kernel_rfl) (by kernel_rfl) (λ_ _ _ _ h=>h) (aa rfl) rfl rfl (eF (r:=ow) rfl jz aP rfl rfl (by omega) (by omega) (by omega)) ?_;refine cw [14] (by kernel_rfl) rfl ?_;refine aE rfl ?_ ?_
               · skip
                 refine bv (i:=3) (H':=[bT c a g,nu a d2 r2,ag b7 (ints ((jX (bp a) key 5).toList.flatMap CellT.flat)) 132,ag b5 (ints (GF (bp a) key i ow (qg (bp a) key (eT a) i))) 42,ag b4 (ints (#v[0,0,0,0,0]).toList) 42]) (aa rfl) rfl rfl rfl rfl rfl aP rfl rfl (by simp only[ints_length,GF,Kb,ct,p1,je,ir];omega) (Hv (by omega)) rfl ?_;refine ap ?_;refine mT (λ_ s=>⟨dT s,s.block 2 (lb rfl) rfl,trivial⟩) ?_;refine Ob (by kernel_rfl) ?_;refine ac hK24 ?_;clear hK24;refine ab (λK25 hK25=>?_);refine ad ?_;refine dm (aa rfl) rfl rfl (cj rfl rfl) ?_;refine ap ?_;refine ac hK25 ?_;clear hK25;refine aq ?_
                 refine bn (α:=(Nat)) (λj=>j≤5) (λj=>[(4,(.pointer (some ⟨b4,0,none⟩))),(5,(.pointer (some ⟨b5,0,none⟩))),(7,(.pointer (some ⟨b7,0,none⟩))),(9,(.int .i64 (((i:Nat):Int)))),(10,(.int .i64 (((ow:Nat):Int)))),(33,(.agg (ints (nM (eT a) 5)).toArray)),(34,(.int .i64 (((i:Nat):Int)))),(58,(.int .i64 (((j:Nat):Int))))]) (λj=>[bT c a g,nu a d2 r2,ag b7 (ints ((jX (bp a) key 5).toList.flatMap CellT.flat)) 132,ag b5 (ints (Jl (bp a) key i ow (GF (bp a) key i ow (qg (bp a) key (eT a) i)) j)) 42,ag b4 (ints (#v[0,0,0,0,0]).toList) 42]) (λj=>5-j) 0
                  (aN _) (aL (aL (aL (aL (aL (aL (aL (bd rfl (by congr 1) (mU _)))))))))
                  (λ_ s=>s) (λj hinv=>?_)
                 obtain hj:=hinv;refine ab (λK26 hK26=>?_);refine ad ?_;refine dm (aa rfl) rfl rfl (Jh rfl rfl rfl) ?_;refine an (λh59=>?_) (λh59=>?_)
                 · skip
                   refine ap ?_;refine ac hK26 ?_;clear hK26;refine ab (λK27 hK27=>?_);refine iG rfl ?_;refine aQ ?_;refine ac hK27 ?_;clear hK27;refine ab (λK28 hK28=>?_);refine aq ?_;refine ab (λK29 hK29=>?_);refine ad ?_;refine dm (aa rfl) rfl rfl (cj rfl rfl) ?_;refine dm (aa rfl) rfl rfl (oT rfl rfl) ?_;refine ap ?_;refine ac hK29 ?_;clear hK29;refine lR (λw=>Frm F w∧w.heap[b7]?=some (.cells (ints ((jX (bp a) key 5).toList.flatMap CellT.flat)).toArray 132 (0,0))∧True) df rfl (λ_ s=>⟨dT s,s.block 2 (lb rfl) rfl,trivial⟩) ?_;refine dw (i:=0) rfl (by kernel_rfl) (by kernel_rfl) (by kernel_rfl) (λ_ _ _ _ h=>h) (aa rfl) rfl rfl (cj rfl rfl) ?_;refine dw (i:=1) rfl (by kernel_rfl) (by kernel_rfl) (by kernel_rfl) (λ_ _ _ _ h=>h) (aa rfl) rfl rfl (eF (r:=ow) rfl jz aP rfl rfl (by omega) (by omega) (by omega)) ?_;refine dw (i:=3) rfl (by kernel_rfl) (by kernel_rfl) (by kernel_rfl) (λ_ _ _ _ h=>h) (aa rfl) rfl rfl (cj rfl rfl) ?_;refine dw (i:=4) rfl (by kernel_rfl) (by kernel_rfl) (by kernel_rfl) (λ_ _ _ _ h=>h) (aa rfl) rfl rfl (cj rfl rfl) ?_;refine dw (i:=5) rfl (by kernel_rfl) (by kernel_rfl) (by kernel_rfl) (λ_ _ _ _ h=>h) (aa rfl) rfl rfl (eF (r:=j*7) rfl xv fp rfl rfl (by omega) (by omega) (by omega)) ?_;refine dw (i:=6) rfl (by kernel_rfl) (by kernel_rfl) (by kernel_rfl) (λ_ _ _ _ h=>h) (aa rfl) rfl rfl (aV (r:=j*7+2) rfl mp rfl eQ rfl rfl) ?_
                   refine dw (i:=7) rfl (by kernel_rfl) (by kernel_rfl) (by kernel_rfl) (λ_ _ _ _ h=>h) (aa rfl) rfl rfl (eF (r:=j*7+2+i) rfl jz aP rfl rfl (by omega) (by omega) (by omega)) ?_;refine dw (i:=8) rfl (by kernel_rfl) (by kernel_rfl) (by kernel_rfl) (λ_ _ _ _ h=>h) (aa rfl) rfl rfl (e7 (v:=(.int .i64 ((ib (bp a) key j).given.toList.getD i 0))) rfl Y3 rfl rfl (λ_ h=>h.2.1) (BM (by omega) (by omega) (by omega))) ?_;refine dw (i:=9) rfl (by kernel_rfl) (by kernel_rfl) (by kernel_rfl) (λ_ _ _ _ h=>h) (aa rfl) rfl rfl (cj rfl rfl) ?_;refine dw (i:=10) rfl (by kernel_rfl) (by kernel_rfl) (by kernel_rfl) (λ_ _ _ _ h=>h) (aa rfl) rfl rfl (cj rfl rfl) ?_;refine dw (i:=11) rfl (by kernel_rfl) (by kernel_rfl) (by kernel_rfl) (λ_ _ _ _ h=>h) (aa rfl) rfl rfl (eF (r:=i*7) rfl xv fp rfl rfl (by omega) (by omega) (by omega)) ?_;refine dw (i:=12) rfl (by kernel_rfl) (by kernel_rfl) (by kernel_rfl) (λ_ _ _ _ h=>h) (aa rfl) rfl rfl (aV (r:=i*7+2) rfl mp rfl eQ rfl rfl) ?_;refine dw (i:=13) rfl (by kernel_rfl) (by kernel_rfl) (by kernel_rfl) (λ_ _ _ _ h=>h) (aa rfl) rfl rfl (eF (r:=i*7+2+j) rfl jz aP rfl rfl (by omega) (by omega) (by omega)) ?_
                   refine dw (i:=14) rfl (by kernel_rfl) (by kernel_rfl) (by kernel_rfl) (λ_ _ _ _ h=>h) (aa rfl) rfl rfl (e7 (v:=(.int .i64 ((ib (bp a) key i).given.toList.getD j 0))) rfl Y3 rfl rfl (λ_ h=>h.2.1) (BM (by omega) (by omega) (by omega))) ?_;refine dw (i:=15) rfl (by kernel_rfl) (by kernel_rfl) (by kernel_rfl) (λ_ _ _ _ h=>h) (aa rfl) rfl rfl (iH (r:=(fM ((ib (bp a) key j).given.toList.getD i 0- (ib (bp a) key i).given.toList.getD j 0))) rfl rfl rfl rfl) ?_;refine cw [2] (by kernel_rfl) rfl ?_;refine aE rfl ?_ ?_
                   · skip
                     refine dm (aa rfl) rfl rfl (e7 (v:=(.int .i64 ((Jl (bp a) key i ow (GF (bp a) key i ow (qg (bp a) key (eT a) i)) j).getD ow 0))) rfl Y3 rfl rfl (dG 3 rfl rfl) (Hw (by omega) (by simp only[GF,Kb,ct,p1,je,ir];omega))) ?_;refine ap ?_;refine mT (λ_ s=>⟨dT s,s.block 2 (lb rfl) rfl,trivial⟩) ?_;refine dw (i:=16) rfl (by kernel_rfl) (by kernel_rfl) (by kernel_rfl) (λ_ _ _ _ h=>h) (aa rfl) rfl rfl (cg (r:=(fM ((Jl (bp a) key i ow (GF (bp a) key i ow (qg (bp a) key (eT a) i)) j).getD ow 0+fM ((ib (bp a) key j).given.toList.getD i 0- (ib (bp a) key i).given.toList.getD j 0)))) rfl rfl rfl rfl) ?_;refine dw (i:=17) rfl (by kernel_rfl) (by kernel_rfl) (by kernel_rfl) (λ_ _ _ _ h=>h) (aa rfl) rfl rfl (eF (r:=ow) rfl jz aP rfl rfl (by omega) (by omega) (by omega)) ?_;refine cw [18] (by kernel_rfl) rfl ?_;refine aE rfl ?_ ?_
                     · skip
                       refine bv (i:=3) (H':=[bT c a g,nu a d2 r2,ag b7 (ints ((jX (bp a) key 5).toList.flatMap CellT.flat)) 132,ag b5 (ints (Kb (bp a) key i ow j (Jl (bp a) key i ow (GF (bp a) key i ow (qg (bp a) key (eT a) i)) j))) 42,ag b4 (ints (#v[0,0,0,0,0]).toList) 42]) (aa rfl) rfl rfl rfl rfl rfl aP rfl rfl (by simp only[ints_length,GF,Kb,ct,p1,je,ir];omega) (Hv (by omega)) rfl ?_;refine ap ?_;refine mT (λ_ s=>⟨dT s,s.block 2 (lb rfl) rfl,trivial⟩) ?_;refine Ob (by kernel_rfl) ?_;refine af ?_;refine ac hK28 ?_;clear hK28;refine ad ?_;refine dm (aa rfl) rfl rfl (cg rfl rfl rfl (bH (by omega) (by omega))) ?_;refine dm (aa rfl) rfl rfl (cj rfl rfl) ?_;refine ap ?_
                       exact aI ((j+1):(Nat)) (by omega) (by show 5- (j+1)<5-j;omega)
                        (aL (aL (aL (aL (aL (aL (aL (bd rfl (by simp) (mU _)))))))))
                        (λ_ s=>s)
                     exact bw
                   exact bw
                 · skip
                   refine ap ?_;refine ac hK26 ?_;clear hK26;refine ab (λK30 hK30=>?_);refine sz rfl ?_;refine aS ?_;refine ay ?_;clear hK30;refine ay ?_;refine bj ?_;refine af ?_;refine ac hK20 ?_;clear hK20;refine ad ?_;refine dm (aa rfl) rfl rfl (cg rfl rfl rfl (bH (by omega) (by omega))) ?_;refine dm (aa rfl) rfl rfl (cj rfl rfl) ?_;refine ap ?_
                   exact aI ((i+1):(Nat)) (by omega) (by show 5- (i+1)<5-i;omega)
                    (aL (aL (aL (aL (bd rfl (by simp) (mU _))))))
                    (λ_ q=>by show bC [bT c a g,nu a d2 r2,ag b7 (ints ((jX (bp a) key 5).toList.flatMap CellT.flat)) 132,ag b5 (ints (qg (bp a) key (eT a) (i+1))) 42,ag b4 (ints (#v[0,0,0,0,0]).toList) 42] _;rw[qg,if_pos (by omega),show(sY (eT a) i).toNat=ow by omega];rw[show j=5 by omega]at q;exact ak [0,0,0,0,0] rfl q)
               exact bw
             exact bw
       · skip
         refine ap ?_;refine ac hK18 ?_;clear hK18;refine ab (λK31 hK31=>?_);refine sz rfl ?_;refine aS ?_;refine ay ?_;clear hK31;refine ay ?_;refine bj ?_;refine ac hK16 ?_;clear hK16;refine ab (λK32 hK32=>?_);refine ad ?_;obtain rfl:i=5:=by omega
         refine dm (aa rfl) rfl rfl (aM (vs:=ints (qg (bp a) key (eT a) 5)) rfl jz rfl eQ rfl (dG 3 rfl rfl) (by simp only[ints_length,je]) (by rw[a8,aB (by simp only[ints_length,je];exact aK _)])) ?_;refine bF (vs:=ints (qg (bp a) key (eT a) 5)) (i:=4) (H':=[bT c a g,nu a d2 r2,ag b7 (ints ((jX (bp a) key 5).toList.flatMap CellT.flat)) 132,ag b5 (ints (qg (bp a) key (eT a) 5)) 42,ag b4 (ints (qg (bp a) key (eT a) 5)) 42]) (aa rfl) rfl rfl rfl rfl rfl (by simp only[ints_length,je];exact eQ) (bu _) rfl rfl (by simp only[ints_length,je];exact aK _) (fi (by simp only[ints_length,je];rfl)) rfl ?_;refine ap ?_;refine ac hK32 ?_;clear hK32;refine ai ?_;refine xx (H':=[bT c a g,nu a d2 r2]) rfl rfl jz rfl eQ (dG 4 rfl rfl) (by rw[ints_length,je]) (λ_ s=>ak [0,0] rfl s) ?_;exact .inr ⟨by omega,d2,r2,rfl,rfl⟩
end Go.Proofs.YtjblgopghhgflaaGreat
end

section
namespace Api
open Go Leg Codec Dsk Wal
def nU:CL:=jf IU 2
theorem zx:CLOk 1 nU:=fitA_ok.settle 2
def Mz:Bool:=decide (mo (bp nU) 0=5)&&decide ((qg (bp nU) 0 (eT nU) 5).getD 0 0=5)&&decide ((eT nU).flat=firstV.flat)
theorem F3:Mz=true:=by decide+kernel
theorem HD:mo (bp nU) 0=5∧(qg (bp nU) 0 (eT nU) 5).getD 0 0=5∧(eT nU).flat=firstV.flat:=by
 have h:=F3;unfold Mz at h;rw[av,av]at h;exact⟨of_decide_eq_true h.1.1,of_decide_eq_true h.1.2,of_decide_eq_true h.2⟩
end Api
end

section
namespace Go.Proofs.YtjblgopghhgflaaGreat
open Go Leg Codec Api Dsk Wal
theorem Lk:Tryz.prog.eqGuardType Tryz.prog.depth 44=false:=by kernel_rfl
theorem Li:Tryz.prog.keyTypeAt 4 44=true:=by kernel_rfl
theorem MB:m9 Tryz.prog 4 44=some 7:=by kernel_rfl
theorem IV:(match Tryz.prog.underlying 44 with|some (.struct _)|some (.array _ _)=>true|_=>false)=true:=by kernel_rfl
theorem I7:Tryz.prog.cellsOf 44=7:=by kernel_rfl
theorem Nk:Tryz.prog.eqGuardType Tryz.prog.depth 60=false:=by kernel_rfl
theorem Ng:Tryz.prog.keyTypeAt 8 60=true:=by kernel_rfl
theorem NO:m9 Tryz.prog 8 60=some 174:=by kernel_rfl
theorem MD:(match Tryz.prog.underlying 60 with|some (.struct _)|some (.array _ _)=>true|_=>false)=true:=by kernel_rfl
theorem MH:Tryz.prog.cellsOf 60=174:=by kernel_rfl
theorem De:
 DT 36 #[] T0 [] (RI (.bool true) []):=by
 refine BD 40 Tryz.func36 rfl rfl rfl λw0 F hF=>?_
 obtain⟨hf1,_⟩:=IT;obtain⟨hv5,hs5,hf5⟩:=HD;have hwl:WF (eT nU).flat:=hf5▸OkVw.first.wf;refine sr λ_ J1=>PS ?_
 refine nx J1 (sr λ_ J2=>CR Mm (yd) ID λvR HR hR=>?_);obtain⟨c,rfl,rfl⟩:=hR;refine PS ?_;refine nx J2 (ab λ_ J3=>sr λ_ J4=>PS ?_);refine tp (hJ rfl KR rfl rfl) ?_;refine nx J4 (CN (qx J3 (sr λ_ J5=>PS ?_)));refine tp (kO OpT.zero (OpT.mk 0 0 0 0 5 ChangeT.zero 0 0 0) [(0,[Value.int .i64 0]),(4,[Value.int .i64 5])] fz oU (g:=OpT.sg)) ?_;refine CR IK (sj (c:=c) (o:=Bn) new_ok (by decide) Bm) ID λvR HR hR=>?_
 obtain⟨hv,rfl⟩:=hR;rw[hf1]at hv;subst hv;refine nx J5 (sr λ_ J6=>PS ?_);refine CZ NJ (yV c 1 IU fitA_ok (by decide) 2 (by decide)) ID λvR=>?_
 refine nx J6 (sr λ_ J7=>PS ?_);refine JV (H':=λg:CX=>[bT c nU g]) (λ_ s=>yr s) (λg=>CR LJ (tm c 1 nU g zx) ID λvR HR hR=>?_);obtain⟨bt,d,r,rfl,rfl⟩:=hR;refine PS ?_;refine nx J7 (sr λ_ J8=>PS ?_);refine tp (fP rfl Tryz.underlying72 rfl rfl) ?_;refine P2 ?_;refine CR LI (pO bt 0 121 (λx=>ints x.flat) Arnd.whole (bp nU) 0) (SM [2]) λvR HR hR=>?_
 obtain⟨hv,rfl⟩:=hR;rw[hv5]at hv;subst hv;refine P4 ?_;refine CR NH (yU c 1 nU g zx 0) (SM [1]) λvR HR hR=>?_
 obtain⟨_,d2,r2,rfl,rfl⟩:=hR.resolve_left (λq=>q.1 (by decide));refine tq (kE (cs:=ints (qg (bp nU) 0 (eT nU) 5)) (v:=(.int .i64 5)) (r:=0) rfl jz Y3 rfl aP rfl rfl (by omega) (by omega) (by omega) ((Hw rfl (by rw[je];decide)).trans (by rw[hs5]))) ?_;refine P3 ?_;refine BV ((ints RowT.zero.flat).toArray) ?_;refine CR FM (il .zero Ij) ID λvR HR hR=>?_
 obtain⟨hv,rfl⟩:=hR;rw[show gz .zero=true by decide]at hv;subst hv;refine P3 ?_;refine CR LH (vZ c 1 nU g zx) ID λvR HR hR=>?_
 obtain⟨d3,r3,rfl,rfl⟩:=hR;refine CE Kv (qS) ID ?_;refine tq (PV.eqlAgg (a:=(eT nU).flat) (b:=firstV.flat) (m:=4) (c:=7) Lk Li rfl MB (cG (am (eT nU))) (cG (am firstV)) ⟨e9 IV I7 (cG (am (eT nU))),e9 IV I7 (cG (am firstV))⟩ hwl OkVw.first.wf rfl rfl rfl) ?_;refine an ?_ ?_<;>intro h34;refine P2 ?_;refine CR Kt (Ds) ID λvR HR hR=>?_
 obtain⟨dn,rfl,rfl⟩:=hR;refine tq (fP rfl sx rfl rfl) ?_;refine P2 ?_;refine nx J8 (ai (WK [] (au rfl rfl ?_)));exact⟨by simp[hf5],rfl⟩
 · exact absurd hf5 h34
theorem Bf(x:Value)(l:List OpT)(hn:l.length≤100000)(hok: ∀o∈l,OkOp o):
 DT 40 #[x] (IsL 11 (EF OpT.flat) x l) [] (c9 (λv H=>∃c:Nat,v= .pointer (some ⟨c,0,none⟩)∧H=[fE c (gn .new l)])):=by
 refine BD 18 Tryz.func40 rfl rfl rfl λw0 F hF=>sr λ_ J1=>PS ?_
 refine nx J1 (sr λ_ J2=>CR Mm (yd) ID λvR HR hR=>?_);obtain⟨c,rfl,rfl⟩:=hR;refine PS ?_;refine nx J2 (ab λ_ J3=>sr λ_ J4=>PS ?_);refine tp (dX rfl Tryz.underlying22 rfl hF.len) ?_;refine PS ?_;refine nx J4 (aq ?_)
 refine bn (α:=(Nat)) (λk=>k≤l.length) (λk=>[(2,(.pointer none)),(3,(.pointer (some ⟨c,0,none⟩))),(7,x),(8,(.int .i64 (((l.length:Nat):Int)))),(9,(.int .i64 (((k:Nat):Int))))]) (λk=>[fE c (gn .new (l.take k))]) (λk=>l.length-k) 0
  (aN _) SB
  (λ_ s=>s) (λk hinv=>?_)
 obtain hk:=hinv;refine sr λ_ J5=>PS ?_
 refine an ?_ ?_<;>intro h10;obtain⟨b_e,off_e,cap_e,cs_e,T_e,z_e,us_e,hv_e,hc_e,hb_e,hl_e,hs_e,hE_e⟩:=IsL.at hF (j:=k) (by omega);have hkl:k<l.length:=by omega
 obtain⟨o,ho⟩: ∃o,o=l[k]:=⟨_,rfl⟩;replace hE_e:us_e=ints l[k].flat:=hE_e;rw[←ho]at hE_e;have hoo:OkOp o:=ho▸hok _ (eY ..);have hck:CLOk l.length (gn .new (l.take k)):=(Cw (l.take k) new_ok (λo ho=>hok o (lG ho))).more (by rw[bG];omega);refine nx J5 (ab λ_ J6=>CY (qx J6 (ab λ_ J7=>aq (sr λ_ J8=>tp (bS (r:=off_e+k*11) hv_e rfl Tryz.underlying22 Ap rfl rfl (by omega) (by omega) (by omega)) ?_))));refine tp (N6 (vs:=ints o.flat) rfl fz rfl Ap rfl (B6 hb_e (λ_ h=>dT h)) (H6 _) (hs_e.trans hE_e)) ?_;refine XZ Oa (ints OpT.zero.flat) λb5=>?_
 refine SW 0 Ap H6 ?_;refine nx J8 (ad (PS ?_));refine LW 0 fz Ap H6 ?_;refine CE IK (sj (c:=c) (a:=gn .new (l.take k)) (o:=o) hck (by omega) hoo) (SM [1]) ?_;refine ap (af (ac J7 (ad (AD ?_))));refine PS ?_;refine ap ?_
 exact aI ((k+1):(Nat)) (by omega) (by show l.length- (k+1)<l.length-k;omega)
  SB
  (λ_ s=>by rw[Fb .new l hkl,←ho];exact ak [0] rfl s)
 refine nx J5 (ab λ_ J9=>CN (aS (ay (ay (bj (ac J3 (sr λ_ J10=>P2 ?_)))))));exact nx J10 (ai (aF (H':=[fE c (gn .new l)]) (dh _) (λ_ s=>by rw[show k=l.length by omega,hO]at s;exact s) (au rfl rfl ⟨c,rfl,rfl⟩)))
def uT(a:CL)(k:Nat):List Bool:=(List.range 5).map λj=>if j<k then(a.at' j).up else false
theorem Gx(a:CL)(k:Nat):(ic (uT a k)).length=5:=by simp[uT,ic]
theorem Gw{a:CL}{i:Nat}(hi:i<5):(ic (uT a i)).set i (.bool (a.at' i).up)=ic (uT a (i+1)):=by
 refine List.ext_getElem? λj=>?_
 unfold uT ic
 by_cases hj:j=i
 · subst hj
   rw[List.getElem?_set_self (by simp;omega),List.getElem?_map,List.getElem?_map,List.getElem?_range hi];simp
 · rw[List.getElem?_set_ne (λe=>hj e.symm),List.getElem?_map,List.getElem?_map,List.getElem?_map,List.getElem?_map]
   by_cases h5:j<5
   · rw[List.getElem?_range h5]
     simp only[Option.map_some]
     by_cases h:j<i
     · rw[if_pos h,if_pos (by omega)]
     · rw[if_neg h,if_neg (by omega)]
   · rw[List.getElem?_eq_none (by rw[kN];omega)];rfl
theorem Am{a:CL}{j:Nat}(hj:j<5):(ic (uT a 5))[j]?=some (.bool (a.at' j).up):=by
 unfold uT ic;rw[List.getElem?_map,List.getElem?_map,List.getElem?_range hj];simp[hj]
theorem GJ{a:CL}{g:CX}{r:Nat→Nat}{i:Nat}(h:(a.at' i).up=true):mC a g r i=g.r i:=if_pos h
theorem PV.ptrNeSame{P:Program}{n:Nat}{D:List Deferred}{L:List (Nat×Value)}{S:World→Prop}{o:Oper}{t t' te k:TypeId}{x y:Operand}{p:Addr}(ho:o.op= .binOp .neq t x y t')(ht:P.underlying t=some (.pointer te))(hs:(P.info? te).map (·.size)=some k)(hx:cy L x=some (.pointer (some p)))(hy:cy L y=some (.pointer (some p))):PV P n D L S o (.bool false):=
 fF ho hx hy (λw=>by
  obtain⟨i,hi,_⟩:=Option.map_eq_some_iff.1 hs;have:=Lib.run_neq_ptr_same (P:=P) w p ht hi
  simpa [eqGuard]using this)
theorem uj(x:Value)(l:List OpT)(hok: ∀o∈l,OkOp o):
 DT 11 #[x] (IsL 11 (EF OpT.flat) x l) [] (RI (.bool true) []):=by
 refine BD 96 Tryz.func11 rfl rfl rfl λw0 F hF=>sr λ_ J1=>PS ?_
 refine nx J1 (ab λ_ J2=>sr λ_ J3=>CE NI (De) ID ?_);refine PS ?_;refine nx J3 (CN (qx J2 (ab λ_ J4=>sr λ_ J5=>PS ?_)));refine CF NL (C2 x l) ID (λ_ d _=>IsL.more EF.more hF d) ?_;refine an ?_ ?_<;>intro h13;refine PS ?_;refine nx J5 (CN (qx J4 (sr λ_ J6=>PS ?_)));refine CQ NG (Bf x l (by omega) hok) ID (λ_ d _=>IsL.more EF.more hF d) λvR HR hR=>?_
 obtain⟨c,rfl,rfl⟩:=hR;refine PS ?_;refine nx J6 (sr λ_ J7=>?_);have hcl:CLOk l.length (gn .new l):=(Cw l new_ok hok).more (by omega);refine PS ?_;refine JV (H':=λg:CX=>[bT c (gn .new l) g]) (λ_ s=>yr s) (λg=>CE LL (uR hcl) ID ?_);refine PS ?_;refine nx J7 (sr λ_ J8=>XZ N9 (ic (#v[false,false,false,false,false]).toList) λb5=>?_);refine nx J8 (ab λ_ J9=>sr λ_ J10=>PS ?_);refine nx J10 (aq ?_)
 refine bn (α:=(Nat)) (λi=>i≤5) (λi=>[(2,(.bool false)),(3,(.pointer (some ⟨c,0,none⟩))),(4,(.int .i64 (((pc (gn .new l):Nat):Int)))),(5,(.pointer (some ⟨b5,0,none⟩))),(19,(.int .i64 (((i:Nat):Int))))]) (λi=>[bT c (gn .new l) g,ag b5 (ic (uT (gn .new l) i)) 96]) (λi=>5-i) 0
  (aN _) SB
  (λ_ s=>ak [1,0] rfl s) (λi hinv=>?_)
 obtain hi:=hinv;refine sr λ_ J11=>PS ?_
 refine an ?_ ?_<;>intro h20;refine nx J11 (ab λ_ J12=>CY (qx J12 (ab λ_ J13=>aq (sr λ_ J14=>P2 ?_))));refine nx J14 (ad (P3 ?_));refine CE xd (Al (i:=i) (by omega)) ID ?_;refine IX i KQ ka ?_;refine bv (i:=1) (aa rfl) rfl rfl rfl rfl rfl ka rfl rfl (by rw[Gx];omega) (Gw (by omega)) rfl (ap (af (ac J13 (ad (AD ?_)))));refine PS ?_;refine ap ?_
 exact aI ((i+1):(Nat)) (by omega) (by show 5- (i+1)<5-i;omega)
  SB
  (λ_ s=>ak [0,0] rfl s)
 refine nx J11 (ab λ_ J15=>CN (aS (ay (ay (bj (ac J9 (sr λ_ J16=>?_)))))));obtain rfl:i=5:=by omega
 refine PS ?_;refine CR IJ (kx c l.length (gn .new l) g hcl) ID λvR HR hR=>?_
 obtain⟨r1,d1,rfl,rfl⟩:=hR;refine XA M5 λb7=>?_
 refine bF (vs:=iv (gn .new l) g r1 5) (i:=0) (aa rfl) rfl rfl rfl rfl rfl (by rw[fB];exact nE) vW rfl rfl (by rw[fB];exact aK _) (fi (by rw[fB];rfl)) rfl (nx J16 (sr λ_ J17=>PS ?_));refine CR IJ (kx c l.length (gn .new l) g hcl) (SM [1]) λvR HR hR=>?_
 obtain⟨r2,d2,rfl,rfl⟩:=hR;refine XA M5 λb8=>?_
 refine bF (vs:=iv (gn .new l) g r2 5) (i:=0) (aa rfl) rfl rfl rfl rfl rfl (by rw[fB];exact nE) vW rfl rfl (by rw[fB];exact aK _) (fi (by rw[fB];rfl)) rfl (nx J17 (ab λ_ J18=>sr λ_ J19=>PS ?_));refine nx J19 (aq ?_)
 refine bn (α:=(Nat)) (λi=>i≤5) (λi=>[(3,(.pointer (some ⟨c,0,none⟩))),(4,(.int .i64 (((pc (gn .new l):Nat):Int)))),(5,(.pointer (some ⟨b5,0,none⟩))),(7,(.pointer (some ⟨b7,0,none⟩))),(8,(.pointer (some ⟨b8,0,none⟩))),(32,(.int .i64 (((i:Nat):Int))))]) (λi=>[bT c (gn .new l) g,ag b5 (ic (uT (gn .new l) 5)) 96,nu (gn .new l) d1 r1,nu (gn .new l) d2 r2,ag b7 (iv (gn .new l) g r1 5) 62,ag b8 (iv (gn .new l) g r2 5) 62]) (λi=>5-i) 0
  (aN _) SB
  (λ_ s=>ak [1,4,3,1,1,0] rfl s) (λi hinv=>?_)
 obtain hi:=hinv;refine sr λ_ J20=>PS ?_
 refine an ?_ ?_<;>intro h33;refine nx J20 (ab λ_ J21=>CY (qx J21 (ab λ_ J22=>aq (sr λ_ J23=>P2 ?_))));refine nx J23 (ab λ_ J24=>ab λ_ J25=>lR (λw=>Frm F w∧w.heap[b5]?=some (.cells (ic (uT (gn .new l) 5)).toArray 96 (0,0))∧w.heap[b7]?=some (.cells (iv (gn .new l) g r1 5).toArray 62 (0,0))∧w.heap[b8]?=some (.cells (iv (gn .new l) g r2 5).toArray 62 (0,0))∧True) df rfl (λ_ s=>⟨dT s,s.block 1 (lb rfl) rfl,s.block 4 (lb rfl) rfl,s.block 5 (lb rfl) rfl,trivial⟩) (PD 0 ?_));refine PD 1 ?_;refine PD 3 ?_;refine IY 4 i KQ ka ?_;refine LX 5 Y4 (.bool (((gn .new l).at' i).up)) ?_ (hc:=by exact Am (by omega));refine AL 2 ?_;refine CE xd (Al (i:=i) (by omega)) ID ?_;refine EN (ta 6 rfl (PV.neqBo rfl Y4 rfl rfl) ?_);refine kM ?_ ?_<;>intro h41
 · exact absurd h41 (by simp)
 refine PD 7 ?_;refine PD 8 ?_;refine IY 9 i qa gV ?_;refine LX 10 oQ (j5 (gn .new l) g r1 i) ?_ (hc:=by exact jE (by omega));refine tb 11 rfl (MM rfl oQ rfl rfl) ?_;refine PD 12 ?_;refine IY 13 i qa gV ?_;refine LX 14 oQ (j5 (gn .new l) g r2 i) ?_ (hc:=by exact jE (by omega));refine tb 15 rfl (MM rfl oQ rfl rfl) ?_;refine tb 16 rfl (PV.neqBo rfl Y4 rfl rfl) ?_;refine kM ?_ ?_<;>intro h51
 · exact absurd h51 (by simp)
 refine PD 17 ?_;refine DN (ac J25 (CN (qx J24 (ab λ_ J26=>sr λ_ J27=>PS ?_))));refine IX i qa gV ?_;refine LT 4 oQ (j5 (gn .new l) g r1 i) ?_ (hc:=by exact jE (by omega));refine tp (MM rfl oQ rfl rfl) ?_;refine aW ?_ ?_<;>intro h56;refine nx J27 (CY (aS (ay (bj (ac J22 (ad (AD ?_)))))));refine PS ?_;refine ap ?_
 exact aI ((i+1):(Nat)) (by omega) (by show 5- (i+1)<5-i;omega)
  SB
  (λ_ s=>ak [0,0,0,0,0,0] rfl s)
 obtain⟨s,hs⟩:=Option.isSome_iff_exists.1 (by simpa using h56);have hsk:=rF hcl (by omega) hs;rw[fI hs];refine nx J27 (CN (qx J26 (ab λ_ J28=>lR (λw=>Frm F w∧w.heap[b5]?=some (.cells (ic (uT (gn .new l) 5)).toArray 96 (0,0))∧w.heap[b7]?=some (.cells (iv (gn .new l) g r1 5).toArray 62 (0,0))∧w.heap[b8]?=some (.cells (iv (gn .new l) g r2 5).toArray 62 (0,0))∧True) df rfl (λ_ s=>⟨dT s,s.block 1 (lb rfl) rfl,s.block 4 (lb rfl) rfl,s.block 5 (lb rfl) rfl,trivial⟩) (PD 0 ?_))));refine IY 1 i qa gV ?_;refine LX 2 oQ (.pointer (some ⟨(mC (gn .new l) g r1 i),0,none⟩)) ?_ (hc:=by exact(jE (by omega)).trans (by rw[fI hs]));refine PD 4 ?_;refine IY 5 i qa gV ?_;refine LX 6 oQ (.pointer (some ⟨(mC (gn .new l) g r2 i),0,none⟩)) ?_ (hc:=by exact(jE (by omega)).trans (by rw[fI hs]));refine AL 3 ?_;refine CE LK (na (i:=i) (args:=λr=>#[.pointer (some ⟨r,0,none⟩)]) (Q:=λv=>v= .agg (ints s.own.flat).toArray) (by omega) hs (λd r=>yb s d r)) (SM [0,1]) ?_;refine EN (AL 7 ?_);refine CE LK (na (i:=i) (args:=λr=>#[.pointer (some ⟨r,0,none⟩)]) (Q:=λv=>v= .agg (ints s.own.flat).toArray) (by omega) hs (λd r=>yb s d r)) (SM [0,2]) ?_;refine EN (ta 8 rfl (wR (a:=s.own.flat) (b:=s.own.flat) (m:=8) (c:=174) Nk Ng rfl NO (cG (ah s.own)) (cG (ah s.own)) ⟨e9 MD MH (cG (ah s.own)),e9 MD MH (cG (ah s.own))⟩ hsk.own.wf hsk.own.wf rfl rfl rfl) ?_);refine gR ?_ ?_<;>intro h65
 · exact absurd rfl h65
 refine PD 9 ?_;refine PD 10 ?_;refine IY 11 i qa gV ?_;refine LX 12 oQ (.pointer (some ⟨(mC (gn .new l) g r1 i),0,none⟩)) ?_ (hc:=by exact(jE (by omega)).trans (by rw[fI hs]));refine PD 14 ?_;refine IY 15 i qa gV ?_;refine LX 16 oQ (.pointer (some ⟨(mC (gn .new l) g r2 i),0,none⟩)) ?_ (hc:=by exact(jE (by omega)).trans (by rw[fI hs]));refine AL 13 ?_;refine CE G5 (na (i:=i) (args:=λr=>#[.pointer (some ⟨r,0,none⟩)]) (Q:=λv=>v= .agg (ints s.view.flat).toArray) (by omega) hs (λd r=>mw s d r)) (SM [0,1]) ?_;refine EN (AL 17 ?_);refine CE G5 (na (i:=i) (args:=λr=>#[.pointer (some ⟨r,0,none⟩)]) (Q:=λv=>v= .agg (ints s.view.flat).toArray) (by omega) hs (λd r=>mw s d r)) (SM [0,1]) ?_;refine EN (tb 18 rfl (wR (a:=s.view.flat) (b:=s.view.flat) (m:=4) (c:=7) Lk Li rfl MB (cG (am s.view)) (cG (am s.view)) ⟨e9 IV I7 (cG (am s.view)),e9 IV I7 (cG (am s.view))⟩ hsk.view.wf hsk.view.wf rfl rfl rfl) ?_);refine gR ?_ ?_<;>intro h75
 · exact absurd rfl h75
 refine PD 19 ?_;refine PD 20 ?_;refine PD 21 ?_;refine IY 22 i KQ ka ?_;refine LX 23 Y4 (.bool (((gn .new l).at' i).up)) ?_ (hc:=by exact Am (by omega));refine kM ?_ ?_<;>intro h80;have hup:((gn .new l).at' i).up=true:=h80;refine PD 24 ?_;refine PD 25 ?_;refine IY 26 i qa gV ?_;refine LX 27 oQ (.pointer (some ⟨(mC (gn .new l) g r1 i),0,none⟩)) ?_ (hc:=by exact(jE (by omega)).trans (by rw[fI hs]));refine PD 28 ?_;refine PD 29 ?_;refine AL 30 ?_;refine CR LS (vT (i:=i) (by omega)) ID λvR HR hR=>?_
 obtain⟨hv,rfl⟩:=hR;rw[Bb,if_pos hup]at hv;subst hv;refine EN (tb 31 rfl (PV.ptrNeSame rfl oQ Lg rfl (by rw[←GJ (r:=r1) hup];rfl)) ?_);refine PD 32 ?_;refine PD 33 ?_;refine DN (ac J28 (CN (aQ (af (ac J22 (ad (AD ?_)))))));refine PS ?_;refine ap ?_
 exact aI ((i+1):(Nat)) (by omega) (by show 5- (i+1)<5-i;omega)
  SB
  (λ_ s=>ak [0,2,1,0,0,0] rfl s)
 refine PD 24 ?_;refine NT 25 ?_;refine NT 26 ?_;refine NT 27 ?_;refine NT 28 ?_;refine NT 29 ?_;refine NT 30 ?_;refine NT 31 ?_;refine PD 32 ?_;refine PD 33 ?_;refine DN (ac J28 (CN (aQ (af (ac J22 (ad (AD ?_)))))));refine PS ?_;refine ap ?_
 exact aI ((i+1):(Nat)) (by omega) (by show 5- (i+1)<5-i;omega)
  SB
  (λ_ s=>ak [0,2,1,0,0,0] rfl s)
 refine nx J20 (ab λ_ J29=>CN (aS (ay (ay (bj (ac J18 (sr λ_ J30=>PS ?_)))))));refine CE LL (uR hcl) ID ?_;refine P3 ?_;refine nx J30 (ai (WK [] (au rfl rfl ?_)));exact⟨by simp,rfl⟩;refine PS ?_;refine nx J5 (CY (sr λ_ J31=>PS ?_));refine nx J31 (ai (ae (WK [] (au rfl rfl ?_))));exact⟨by simp,rfl⟩
theorem auditLooks_row(x:Value)(l:List OpT):DT 11 #[x] (IsL 11 (EW OpT.flat) x l) [] (RI (.bool true) []):=λw F r m=>uj x l (Kh r) w F (JP r).1 m
end Go.Proofs.YtjblgopghhgflaaGreat
end

section
namespace Api
open Go Leg Codec Wal
theorem OpT.of(l:List Int)(h:l.length=11): ∃x:OpT,x.flat=l:=by
 match l,h with
 | [a,b,c,d,e,f,g,i,j,k,m],_=>exact⟨⟨a,b,c,d,e,⟨f,g,i⟩,j,k,m⟩,rfl⟩
end Api
end
