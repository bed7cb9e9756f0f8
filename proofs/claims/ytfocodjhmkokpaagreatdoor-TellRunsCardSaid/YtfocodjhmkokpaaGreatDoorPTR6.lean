/-
  Joined texts:what a statement's proof reaches.
-/
import Derived.Test.YtfocodjhmkokpaaGreatDoorPTR5
set_option maxHeartbeats 8000000
set_option maxRecDepth 100000
set_option linter.unusedSimpArgs false
set_option linter.unusedVariables false
section
namespace Go.Proofs.YtfocodjhmkokpaaGreatDoor
open Go Leg Codec Api Dsk Wal
theorem A7(b c s r:Nat)(us:List Value)(x:Value)(bs:List UInt8)(hb:bs.length≤1000000)(hroom:us.length<8):
 DT 116 #[(.pointer (some ⟨b,0,none⟩)),x] (IsW x bs) [ah b [(.chan (some c))] 184,dZ c 8 (us) (s) (r)] (dh (λv H=>v= .bool true∧∃u,H=[ah b [(.chan (some c))] 184,dZ c 8 (us++[u]) (s+1) r,ce u bs 5])):=by
 refine Leg.Does.body (vs:=[(.pointer (some ⟨b,0,none⟩)),x]) (n:=15) Tryz.func116 rfl rfl rfl (λw0 F hF=>?_);refine sr λ_ J1=>?_
 refine pG ?_;refine nx J1 ?_;refine ab λ_ J2=>?_
 refine sr λ_ J3=>?_
 refine mv ?_;refine tp (fZ rfl rfl) ?_;refine tp (aZ (r:=0) rfl Dp rfl uz rfl rfl) ?_;refine tp (eZ (v:=(.chan (some c))) rfl vu rfl rfl (dR 0 rfl rfl) rfl) ?_;refine nx J3 ?_;refine ad ?_;refine Ds (aa rfl) rfl rfl rfl fB jF (λv9=>?_);change TL _ _ _ _ _ _ _ _ _ [ce v9 ([]) 5,ah b [(.chan (some c))] 184,dZ c 8 (us) (s) (r)];refine mv ?_;refine ci (k:=0) (news:=dG (bs)) (nn':=(bs:List UInt8).length) (xs':=dG (bs)) (aa rfl) rfl rfl rfl fB x9 rfl rfl rfl rfl rfl rfl (λ_ _=>hF.src (λ_ h=>ec h)) (eU _) (by simp only[maxLen,aw];omega) (by simp only[aw];omega) (by simp) (bI _) (λv11 ov11=>?_);change TL _ _ _ _ _ _ _ _ _ [ce v11 (bs) 5,ah b [(.chan (some c))] 184,dZ c 8 (us) (s) (r)];refine nx J2 ?_;refine ab λ_ J4=>?_
 refine yE ?_;change TX _ _ _ _ _ _ [0,1,2] _ _ _;refine TX.sendRoom 2 rfl (aa rfl) rfl rfl rfl z53 rfl rfl rfl rfl hroom ?_;change TX _ _ _ _ _ _ _ _ _ [ce v11 (bs) 5,ah b [(.chan (some c))] 184,dZ c 8 (us++[v11]) (s+1) (r)];refine tk rfl (aa rfl) rfl rfl (gT (vs:=[(.int .i64 0),(.bool false)]) rfl rfl rfl) ?_;refine tk rfl (aa rfl) rfl rfl (OM rfl rfl rfl) ?_;refine Lm ?_;refine ac J4 ?_;refine au ?_;refine iS rfl ?_;refine sr λ_ J5=>?_
 refine pG ?_;refine nx J5 ?_;refine ai ?_;refine aH ?_;refine aF (dd _) (λ_ s=>ak [1,1,0] rfl s) ?_;refine av rfl rfl ?_;exact⟨rfl,_,rfl⟩
theorem xO(b c s r:Nat)(us:List Value)(ls:List (List UInt8))(h8:ls.length≤8)(hb: ∀x∈ls,x.length≤1000000):
    DT 78 #[(.pointer (some ⟨b,0,none⟩))] T0 [ah b [(.chan (some c))] 184,dZ c 8 (us) (s) (r),eA (us) (ls) 5] (dh (λv H=>((ls.length=0∨ls.length=8)∧v= .bool false∧H=[ah b [(.chan (some c))] 184,dZ c 8 us s r,eA us ls 5])∨(ls.length≠0∧ls.length≠8∧v= .bool true∧∃un,H=[ah b [(.chan (some c))] 184,dZ c 8 (us++[un]) (s+us.length+1) (r+us.length),eA us ls 5,ce un (ls.getD 0 []) 5]))):=by
 refine BD 41 Tryz.func78 rfl rfl rfl λw0 F hF=>sr λ_ J1=>PS ?_
 refine nx J1 (sr λ_ J2=>PS ?_);refine CE En (ti b c s r us ls) ID ?_;change TL _ _ _ _ _ _ _ _ _ [ah b [(.chan (some c))] 184,dZ c 8 (us) (s) (r),eA (us) (ls) 5];refine yC (p:=us.length=ls.length) (λw m=>(qN 2 rfl rfl m).1) (λhul=>PS ?_);refine nx J2 (ab λ_ J3=>sr λ_ J4=>P2 ?_);refine ao ?_ ?_<;>intro h10;refine PS ?_
 iterate 7 refine UT ?_
 refine PS ?_;refine nx J4 (CY (sr λ_ J5=>PS ?_));refine nx J5 (ai (ae (WK [0,0,0] (av rfl rfl ?_))));exact .inl ⟨by omega,rfl,rfl⟩;refine P4 ?_;refine FA 0 Dp uz ?_;refine LA 0 vu ?_;refine tq (PV.capChan 1 rfl vu rfl rfl rfl) ?_;refine PS ?_;refine ao ?_ ?_<;>intro h18;refine PS ?_;refine nx J4 (CY (sr λ_ J6=>PS ?_));refine nx J6 (ai (ae (WK [0,0,0] (av rfl rfl ?_))));exact .inl ⟨by omega,rfl,rfl⟩;refine PS ?_;refine nx J4 (CN (qx J3 (sr λ_ J7=>PS ?_)));refine nx J7 (ab λ_ J8=>sr λ_ J9=>P2 ?_);refine nx J9 (au ?_)
 refine bu (α:=(Nat)) (λk=>k≤us.length) (λk=>[(0,(.pointer (some ⟨b,0,none⟩))),(2,(.bool false)),(4,(CD k (us.getD 0 undef))),(20,(.int .i64 (((ls.length:Nat):Int)))),(21,(.int .i64 (((k:Nat):Int))))]) (λk=>[ah b [(.chan (some c))] 184,dZ c 8 (us.drop k++us.take k) (s+k) (r+k),eA (us) (ls) 5]) (λk=>us.length-k) 0
     (aN _) SB
     (λ_ q=>by simpa using q) (λk hinv=>?_)
 obtain hk:=hinv;refine sr λ_ J10=>PS ?_
 refine ao ?_ ?_<;>intro h22;have hku:k<us.length:=by omega
 refine nx J10 (ab λ_ J11=>CY (qx J11 (ab λ_ J12=>au (sr λ_ J13=>P2 ?_))));refine nx J13 (ab λ_ J14=>yE (tk rfl (aa rfl) rfl rfl (cp rfl rfl) (tk rfl (aa rfl) rfl rfl (fZ rfl rfl) (tk rfl (aa rfl) rfl rfl (aZ (r:=0) rfl Dp rfl uz rfl rfl) (tk rfl (aa rfl) rfl rfl (eZ (v:=(.chan (some c))) rfl vu rfl rfl (RO 0) rfl) (TX.recv1 1 rfl (aa rfl) rfl rfl rfl vu z53 rfl rfl rfl (IC hku) (tk rfl (aa rfl) rfl rfl (pC rfl rfl) (Lm (ac J14 (ab λ_ J15=>?_))))))))));refine sr λ_ J16=>P2 ?_
 refine ao ?_ ?_<;>intro h30;refine nx J16 (CY (ad (P2 ?_)));refine nx J15 (yE (tk rfl (aa rfl) rfl rfl (cp rfl rfl) (tk rfl (aa rfl) rfl rfl (fZ rfl rfl) (tk rfl (aa rfl) rfl rfl (aZ (r:=0) rfl Dp rfl uz rfl rfl) (tk rfl (aa rfl) rfl rfl (eZ (v:=(.chan (some c))) rfl vu rfl rfl (RO 0) rfl) (tk rfl (aa rfl) rfl rfl (cp rfl rfl) (TX.send1 1 rfl (aa rfl) rfl rfl rfl rfl rfl rfl (by simp only[af,bE,bk];omega) (Lm (ag (ac J12 (ad ?_)))))))))));refine AD ?_;refine PS ?_;refine aq ?_
 exact aJ ((k+1):(Nat)) (by omega) (by show us.length- (k+1)<us.length-k;omega)
   (aL (aL (bJ rfl (by first|exact Jr (by omega) hku|exact Jp (by omega)) SB)))
   (λ_ q=>by
      rw[B7 hku]at q
      exact q)
 refine nx J16 (CN (qx J15 (yE (tk rfl (aa rfl) rfl rfl (cp rfl rfl) (tk rfl (aa rfl) rfl rfl (fZ rfl rfl) (tk rfl (aa rfl) rfl rfl (aZ (r:=0) rfl Dp rfl uz rfl rfl) (tk rfl (aa rfl) rfl rfl (eZ (v:=(.chan (some c))) rfl vu rfl rfl (RO 0) rfl) (tk rfl (aa rfl) rfl rfl (cp rfl rfl) (TX.send1 1 rfl (aa rfl) rfl rfl rfl rfl rfl rfl (by simp only[af,bE,bk];omega) (Lm (ag ?_)))))))))));refine ac J12 (ad (AD ?_));refine PS ?_;refine aq ?_
 exact aJ ((k+1):(Nat)) (by omega) (by show us.length- (k+1)<us.length-k;omega)
   (aL (aL (bJ rfl (by first|exact Jr (by omega) hku|exact Jp (by omega)) SB)))
   (λ_ q=>by
      rw[B7 hku]at q
      exact q)
 obtain rfl:k=us.length:=by omega
 have hpos:0<ls.length:=by omega
 have hg:ls.getD 0 []=ls[0]:=by simp[List.getD_eq_getElem?_getD,hpos]
 refine ck (H':=[ah b [(.chan (some c))] 184,dZ c 8 us (s+us.length) (r+us.length),eA us ls 5]) (λ_ q=>by simpa using q) (nx J10 (ab λ_ J17=>CN (aY (aC (aC (bo (ac J8 (sr λ_ J18=>P2 ?_))))))))
 refine hJ (aa rfl) rfl rfl rfl Ja rfl (A7 b c (s+us.length) (r+us.length) us (CD us.length (us.getD 0 undef)) (ls.getD 0 []) (hb _ (hg▸cR hpos)) (by omega)) (λ_ s=>s) (λg d s=>by
          rw[Jq (by omega),hg]
          exact Gc (ub 0 hpos rfl rfl g d s)) (λvR HR hR=>?_)
 obtain⟨rfl,un,rfl⟩:=hR;refine PS ?_;refine nx J18 (ai (WK [0,0,1,0] (av rfl rfl ?_)));exact .inr ⟨by omega,by omega,rfl,un,rfl⟩
theorem yy(b:Nat)(ls:List (List UInt8))(h8:ls.length≤8)(hb: ∀x∈ls,x.length≤1000000):DT 78 #[.pointer (some ⟨b,0,none⟩)] T0 [hX 184 5 b ls] (RI (.bool (Ie ls)) [hX 184 5 b (DM ls)]):=
 Leg.Does.pack (B:=[]) λq=>Leg.Does.fold (xO b q.1 q.2.2.1 q.2.2.2 q.2.1 ls h8 hb) λe H hp=>by
  cases e with
  |returned v=>
   unfold Ie DM;rcases hp with⟨h,rfl,rfl⟩| ⟨h1,h2,rfl,un,rfl⟩
   · exact⟨[hX 184 5 b ls],λ_ s=>bn (p:=λq:Nat×List Value×Nat×Nat=>[ah b [.chan (some q.1)] 184,dZ q.1 8 q.2.1 q.2.2.1 q.2.2.2,eA q.2.1 ls 5]) (H:=[]) q s,by rw[decide_eq_false (by omega)],by rw[if_neg (by omega)]⟩
   · refine⟨[hX 184 5 b (ls++[ls.getD 0 []])],λ_ s=>?_,by rw[decide_eq_true (by omega)],by rw[if_pos (by omega)];rfl⟩
     have s1:=Ah 3 rfl rfl s;have s2:=aB [2,2] rfl s1;have s3:=ul s2;exact bn (p:=λq:Nat×List Value×Nat×Nat=>[ah b [.chan (some q.1)] 184,dZ q.1 8 q.2.1 q.2.2.1 q.2.2.2,eA q.2.1 (ls++[ls.getD 0 []]) 5]) (H:=[]) (q.1,q.2.1++[un],q.2.2.1+q.2.1.length+1,q.2.2.2+q.2.1.length) (aB [1,1,0] rfl s3)
  |panicked c=>exact hp.elim
  |outgrown=>exact hp.elim
theorem tg(b:Nat)(ls:List (List UInt8))(h8:ls.length≤8)(hb: ∀x∈ls,x.length≤1000000):
 DT 79 #[(.pointer (some ⟨b,0,none⟩))] T0 [hX 184 5 b (ls)] (dh (λv H=>H=[hX 184 5 b (sA ls)])):=by
 refine BD 16 Tryz.func79 rfl rfl rfl λw0 F hF=>sr λ_ J1=>PS ?_
 refine nx J1 (sr λ_ J2=>PS ?_);refine CR L3 (th b ls) ID λvR HR hR=>?_
 rcases hR with⟨rfl,rfl,rfl⟩| ⟨u,f,lt,rfl,rfl,rfl⟩
 refine P4 ?_;refine PS ?_;refine nx J2 (sr λ_ J3=>P2 ?_)
 iterate 3 refine UF ?_
 refine P2 ?_;exact nx J3 (ai (WK [0] (av rfl rfl rfl)));refine P4 ?_;refine PS ?_;refine nx J2 (sr λ_ J4=>P4 ?_);refine CF Ja (uZ b lt u f (hb f (ez ..))) ID (λg d s=>Gc (AM 0 rfl rfl g d s)) ?_;refine P2 ?_;refine nx J4 (ai (WK [0] (av rfl rfl ?_)));exact congrArg (λq=>[hX 184 5 b q]) (if_pos (show lt.length<8 by have:=h8;rw[an]at this;omega))
end Go.Proofs.YtfocodjhmkokpaaGreatDoor
end

section
namespace Leg
open Go
def RdG(S:World→Prop)(b:Nat){α:Type}(c:α→List Value)(T:TypeId):Prop:=∀w,S w→∃a,w.heap[b]?=some (.cells (c a).toArray T (0,0))
abbrev hid{α:Type}(b:Nat)(c:α→List Value)(T:TypeId)(R:α→List HP):HP:=pack (λa=>ah b (c a) T::R a)
section
variable {P:Program} {w0:World} {F:Hl} {n:Nat} {ops:Array Oper} {Q:QQ} {D:List Deferred} {L:List (Nat×Value)} {H:List HP} {o:Oper} {l:List Oper} {d:Nat} {S:World→Prop} {α:Type} {b j:Nat} {c c':α→List Value} {T:TypeId} {R R':α→List HP}
theorem Sat.packOpen{p:α→List HP}{w:World}(i:Nat)(s:Sat H F w)(hi:i<H.length)(hH:H.getD i (λ_=>True)=pack p): ∃a,Sat (p a++H.eraseIdx i) F w:=by
 obtain⟨h,d,e,x⟩:=s;have y:=eB i hi x;rw[hH]at y;obtain⟨a,z⟩:=fq (p:=p) (H:=H.eraseIdx i) (h:=h) y;exact⟨a,h,d,e,z⟩
theorem Sat.packShut{p:α→List HP}{w:World}(i:Nat)(hi:i<H.length)(a:α)(s:Sat (p a++H.eraseIdx i) F w):Sat (H.set i (pack p)) F w:=by
 obtain⟨h,d,e,x⟩:=s;exact⟨h,d,e,kK i hi (bn a x)⟩
theorem RdG.own(i:Nat)(hi:Nat.blt i H.length=true)(hH:H.getD i (λ_=>True)=hid b c T R):RdG (Sat H F) b c T:=λw s=>by
 obtain⟨a,t⟩:=s.packOpen i (lb hi) hH;exact⟨a,t.block 0 (by simp) rfl⟩
abbrev cO:= @RdG.own
theorem PV.load1G{t:TypeId}{x:Operand}{dt:TypeDesc}{v:Value}(ho:o.op= .load t x)(ht:P.underlying t=some dt)(hp:ei dt=true)(hx:cA L x=some (.pointer (some ⟨b,j,none⟩)))(hR:RdG S b c T)(hc: ∀a,(c a)[j]?=some v):PV P n D L S o v:=
 λa w f m=>by
  obtain⟨y,hy⟩:=hR w m;exact eZ (S:=λw'=>w'=w) ho ht hp hx (λ_ e=>e▸hy) (hc y) a w f rfl
abbrev de:= @PV.load1G
theorem PV.loadNG{t:TypeId}{x:Operand}{dt:TypeDesc}{m:Nat}{vs:List Value}(ho:o.op= .load t x)(ht:P.underlying t=some dt)(hp:ei dt=false)(hm:(P.info? t).map (·.size)=some m)(hx:cA L x=some (.pointer (some ⟨b,j,none⟩)))(hR:RdG S b c T)(hl:vs.length=m)(hc: ∀a,((c a).drop j).take m=vs):PV P n D L S o (.agg vs.toArray):=
 λa w f s=>by
  obtain⟨y,hy⟩:=hR w s;exact aM (S:=λw'=>w'=w) ho ht hp hm hx (λ_ e=>e▸hy) hl (hc y) a w f rfl
abbrev fW:= @PV.loadNG
theorem TL.storeG{i:Nat}{t:TypeId}{x y:Operand}{v:Value}{vs:List Value}(hw:Want n D ops o L)(ho:o.op= .store t x y)(hd:o.dst=none)
 (hx:cA L x=some (.pointer (some ⟨b,j,none⟩))) (hy:cA L y=some v) (hv:v.cells=vs.toArray) (hs:(P.info? t).map (·.size)=some vs.length) (h1: ∀u∈vs,u.oneCell'=true)
 (hi:Nat.blt i H.length=true) (hH:H.getD i (λ_=>True)=hid b c T R) (hl: ∀a,j+vs.length≤(c a).length) (hcs: ∀a,wr (c a) j vs=c' a)
 (h:TL P w0 F n ops Q l D L (H.set i (hid b c' T R))):TL P w0 F n ops Q (o::l) D L H:=
 TL.eff hw hd (λa w f _ m=>by
  obtain⟨q,m1⟩:=m.packOpen i (lb hi) hH;have hb:=m1.block 0 (by simp) rfl;refine⟨w.setRow b (wr (c q) j vs).toArray,by simp[execOp,ho,f.eval hx,f.eval hy,wH hv hs h1 hb (hl q)],⟨rfl,rfl,rfl,by simp⟩,?_⟩;rw[hcs q]
  exact Sat.packShut (p:=λa=>ah b (c' a) T::R a) i (lb hi) q (m1.write 0 (by simp) rfl (setRow_heap w b (c q).toArray _ T _ hb) (λk hk=>setRow_other w b k _ hk))) h
abbrev gP:= @TL.storeG
theorem TL.store1G{i:Nat}{t:TypeId}{x y:Operand}{v:Value}(hw:Want n D ops o L)(ho:o.op= .store t x y)(hd:o.dst=none)
 (hx:cA L x=some (.pointer (some ⟨b,j,none⟩))) (hy:cA L y=some v) (h1:v.oneCell'=true) (hs:(P.info? t).map (·.size)=some 1)
 (hi:Nat.blt i H.length=true) (hH:H.getD i (λ_=>True)=hid b c T R) (hl: ∀a,j< (c a).length) (hcs: ∀a,(c a).set j v=c' a)
 (h:TL P w0 F n ops Q l D L (H.set i (hid b c' T R))):TL P w0 F n ops Q (o::l) D L H:=
 gP (vs:=[v]) hw ho hd hx hy (by cases v<;>simp[Value.cells,Value.oneCell']at h1 ⊢) hs (by simpa using h1) hi hH (λa=>by have:=hl a;simp;omega)
  (λa=>by rw[←hcs a,wr,nL,if_pos (hl a)];simp) h
theorem Gz{p p' a b c d:HP}{h:Hl}(e: ∀h,p h→p' h)(s:bD (a::b::c::d::p::H) h):bD (a::b::c::d::p'::H) h:=
 cB s (λ_ x=>x) λ_ s=>cB s (λ_ x=>x) λ_ s=>cB s (λ_ x=>x) λ_ s=>cB s (λ_ x=>x) λ_ s=>cB s e λ_ x=>x
theorem Does.hid{f:FuncId}{args:Array Value}{A:List HP}{q:Value→Prop}(h: ∀a,Does P f args (λ_=>True) (ah b (c a) T::A) (dh λv H=>q v∧H=ah b (c' a) T::A)):Does P f args (λ_=>True) (Leg.hid b c T R::A) (dh λv H=>q v∧H=Leg.hid b c' T R::A):=
 Does.pack λa=>Does.withinR (B:=R a) (h a) (λ_ _ _ _=>trivial) (λ_ s=>eg (List.Perm.cons (ah b (c a) T) (List.perm_append_comm (l₁:=R a) (l₂:=A))) s) λv H hp=>by
  obtain⟨h1,rfl⟩:=hp;exact⟨_,λ_ s=>bn (p:=λa=>ah b (c' a) T::R a) a (eg (List.Perm.cons (ah b (c' a) T) (List.perm_append_comm (l₁:=A) (l₂:=R a))) s),h1,rfl⟩
end
open Api
variable {P:Program} {w0:World} {F:Hl} {n:Nat} {ops:Array Oper} {Q:QQ} {D:List Deferred} {L:List (Nat×Value)} {H:List HP} {d:Nat} {o:Oper} {l:List Oper}
section
variable {A:Type} {b:Nat} {c:A→List Value} {T:TypeId} {R:A→List HP}
theorem LG{t:TypeId}{x:Operand}{dt:TypeDesc}{j:Nat}(k:Nat)(ht:P.underlying t=some dt)(v:Value)(h:TL P w0 F n ops Q l D ((d,v)::L) H)(hw:Want n D ops o L:=by first|exact aa rfl|exact bS rfl rfl rfl)(hd:o.dst=some d:=by exact rfl)(hn:Nat.blt d n=true:=by exact rfl)(ho:o.op= .load t x:=by exact rfl)(hp:ei dt=true:=by exact rfl)(hx:cA L x=some (.pointer (some ⟨b,j,none⟩)):=by exact rfl)(hk:Nat.blt k H.length=true:=by exact rfl)(hH:H.getD k (λ_=>True)=hid b c T R:=by exact rfl)(hc: ∀a,(c a)[j]?=some v):TL P w0 F n ops Q (o::l) D L H:=dz hw hd hn (de ho ht hp hx (cO k hk hH) hc) h
theorem LZ{α:Type}{f:α→List Int}{t:TypeId}{x:Operand}{dt:TypeDesc}{j m:Nat}(k:Nat)(ht:P.underlying t=some dt)(hs:(P.info? t).map (·.size)=some m)(hf: ∀x,(ints (f x)).length=m)(y:α)(h:TL P w0 F n ops Q l D ((d, .agg (ints (f y)).toArray)::L) H)(hw:Want n D ops o L:=by first|exact aa rfl|exact bS rfl rfl rfl)(hd:o.dst=some d:=by exact rfl)(hn:Nat.blt d n=true:=by exact rfl)(ho:o.op= .load t x:=by exact rfl)(hp:ei dt=false:=by exact rfl)(hx:cA L x=some (.pointer (some ⟨b,j,none⟩)):=by exact rfl)(hk:Nat.blt k H.length=true:=by exact rfl)(hH:H.getD k (λ_=>True)=hid b c T R:=by exact rfl)(hc: ∀a,((c a).drop j).take m=ints (f y)):TL P w0 F n ops Q (o::l) D L H:=dz hw hd hn (fW ho ht hp hs hx (cO k hk hH) (hf y) hc) h
theorem SK{o:Oper}{l:List Oper}{t:TypeId}{x y:Operand}{j m:Nat}{v:Value}{c':A→List Value}(k:Nat)(hs:(P.info? t).map (·.size)=some 1)(hl: ∀a,(c a).length=m)(h:TL P w0 F n ops Q l D L (H.set k (hid b c' T R)))(hw:Want n D ops o L:=by first|exact aa rfl|exact bS rfl rfl rfl)(hd:o.dst=none:=by exact rfl)(ho:o.op= .store t x y:=by exact rfl)(hx:cA L x=some (.pointer (some ⟨b,j,none⟩)):=by exact rfl)(hy:cA L y=some v:=by exact rfl)(h1:v.oneCell'=true:=by exact rfl)(hk:Nat.blt k H.length=true:=by exact rfl)(hH:H.getD k (λ_=>True)=hid b c T R:=by exact rfl)(hj:Nat.blt j m=true:=by first|exact rfl|exact Nat.ble_eq_true_of_le (by omega))(hc: ∀a,(c a).set j v=c' a):TL P w0 F n ops Q (o::l) D L H:=TL.store1G hw ho hd hx hy h1 hs hk hH (λa=>(hl a)▸lb hj) hc h
end
end Leg
end

section
namespace Go.Proofs.YtfocodjhmkokpaaGreatDoor
open Go Leg Codec Api Dsk Wal
structure Env(δ:Type) extends Dk δ where
 T:Nat
 ov:Value
 sf:Nat
 E:δ→List SaidT→HP
 lg:Nat→δ→HP
 me : xZ Tryz.prog T ov "Send" sf
 nm:Named Tryz.prog sf
 say: ∀(e:δ) (l:List SaidT) (to':Int) (m:MsgT),ok e→Leg.Does Tryz.prog sf #[ov, .int .i64 to', .agg (ints m.flat).toArray] (λ_=>True) [E e l] (dh (λ_ H=>H=[E e (if dn e then l else l++[SaidT.mk to' m])]))
 put: ∀(g:Nat) (x:Value) (bs:List UInt8) (e:δ) (l:List SaidT),ok e→bs.length≤3000→Leg.Does Tryz.prog 155 #[.pointer (some ⟨g,0,none⟩),x] (IsW x bs) [lg g e,E e l] (dh (λv H=>v= .int .i64 (pt e bs).2∧H=[lg g (pt e bs).1,E (pt e bs).1 l]))
def Fs(vo:Value):Option VoteT→HP
 |none=>λ_=>vo= .pointer none
 |some vt=>λh=>∃b,vo= .pointer (some ⟨b,0,none⟩)∧ah b (VoteT.cells vt) 207 h
abbrev cF{δ:Type}(V:Env δ)(r:Nat)(s:MS δ):HP:=hid r (λa:Adr=>RepT.cells (s.rep a)) 87 (λa=>[V.lg a.lg s.e,own a.rs s.replies.length (ints (s.replies.flatMap ReplyT.flat)) 47 3,Fs a.vo s.vote,V.E s.e s.o])
abbrev vQ{δ:Type}(V:Env δ)(r:Nat)(s:MS δ)(vo:Value):HP:=hid r (λa:Nat×Value=>RepT.cells (s.rep ⟨a.1,vo,a.2⟩)) 87 (λa=>[V.lg a.1 s.e,own a.2 s.replies.length (ints (s.replies.flatMap ReplyT.flat)) 47 3,V.E s.e s.o])
theorem jC{δ:Type}{V:Env δ}{r:Nat}{f:MS δ×Int}{X:MS δ}{y:Int}(e:f=(X,y)):Value.int .i64 y= .int .i64 f.2∧[cF V r X]=[cF V r f.1]:=by
 subst e;exact⟨rfl,rfl⟩
theorem GH{δ:Type}(V:Env δ)(r:Nat)(s:MS δ)(to':Int)(m:MsgT)[hs:OkR V.toDk s]:DT V.sf #[V.ov, .int .i64 to', .agg (ints m.flat).toArray] T0 [cF V r s] (dh (λ_ H=>H=[cF V r (D9 V.toDk s to' m)])):=
 Leg.Does.pack λa=>Leg.Does.withinR (V.say s.e s.o to' m hs.e) (λ_ _ _ _=>trivial) (λ_ q=>aB [4] rfl q) λv H hp=>by
  subst hp;refine⟨_,λ_ q=>?_,rfl⟩;have q2:=aB [1,1,1,1,0] rfl q;exact bn (p:=λa:Adr=>[ah r (RepT.cells (s.rep a)) 87,V.lg a.lg s.e,own a.rs s.replies.length (ints (s.replies.flatMap ReplyT.flat)) 47 3,Fs a.vo s.vote,V.E s.e (if V.dn s.e then s.o else s.o++[SaidT.mk to' m])]) a q2
theorem gh{δ:Type}(V:Env δ)(r:Nat)(s:MS δ)(to':Int)(m:MsgT)(f:MS δ→MS δ)(hT:to'=s.id→DT 82 #[.pointer (some ⟨r,0,none⟩), .iface V.T V.ov, .int .i64 s.id, .agg (ints m.flat).toArray] T0 [cF V r s] (dh (λ_ H=>H=[cF V r (f s)])))[OkR V.toDk s]:
 DT 128 #[(.pointer (some ⟨r,0,none⟩)),(.iface V.T V.ov),(.int .i64 (to')),(.agg (ints m.flat).toArray)] T0 [cF V r s] (dh (λ_ H=>H=[cF V r (nt V.toDk f s to' m)])):=by
 refine Leg.Does.body (vs:=[(.pointer (some ⟨r,0,none⟩)),(.iface V.T V.ov),(.int .i64 (to')),(.agg (ints m.flat).toArray)]) (n:=28) Tryz.func128 rfl rfl rfl (λw0 F hF=>?_);refine sr λ_ J1=>?_
 refine TL.box (aa rfl) rfl rfl rfl rfl (λb7=>?_);change TL _ _ _ _ _ _ _ _ _ [ah b7 (ints m.flat) 163,cF V r s];refine nx J1 ?_;refine ab λ_ J2=>?_
 refine sr λ_ J3=>?_
 refine mv ?_;refine mv ?_;refine tp (fZ rfl rfl) ?_;refine tp (aZ (r:=0) rfl c9 rfl aR rfl rfl) ?_;refine tp (de (v:=(.int .i64 (s.id))) rfl Y3 rfl rfl (cO 1 rfl rfl) (λa_=>(cD (s.rep a_) rfl))) ?_;refine tp (OM rfl rfl rfl) ?_;refine ao (λh13=>?_) (λh13=>?_);refine nx J3 ?_;refine iS rfl ?_;refine ab λ_ J4=>?_
 refine ot (λw=>Frm F w∧w.heap[b7]?=some (.cells (ints m.flat).toArray 163 (0,0))∧True) mixed rfl (λ_ s=>⟨ec s,s.block 0 (lb rfl) rfl,trivial⟩) ?_;refine ta 0 rfl (cp rfl rfl) ?_;refine ta 1 rfl (cp rfl rfl) ?_;refine ta 2 rfl (cp rfl rfl) ?_;refine ta 3 rfl (fZ rfl rfl) ?_;refine ta 4 rfl (aZ (r:=0) rfl c9 rfl aR rfl rfl) ?_;refine ta 6 rfl (aM (vs:=ints m.flat) rfl bd rfl cd rfl (λ_ h=>h.2.1) (aG m) (whole (aG m))) ?_;refine cC [5] (by kernel_rfl) rfl ?_;refine aE rfl ?_ ?_;refine tp (de (v:=(.int .i64 (s.id))) rfl Y3 rfl rfl (cO 1 rfl rfl) (λa_=>(cD (s.rep a_) rfl))) ?_;refine aq ?_;refine nf (λ_ s=>⟨ec s,s.block 0 (lb rfl) rfl,trivial⟩) ?_;refine cC [7] (by kernel_rfl) rfl ?_;refine aE rfl ?_ ?_;refine hJ (aa rfl) rfl rfl rfl Nz rfl ((by have h:=hT h13;exact h)) (λ_ s=>aB [1] rfl s) (λ_ _ _=>trivial) (λvR HR hR=>?_);obtain rfl:=hR;refine aq ?_;refine nf (λ_ s=>⟨ec s,s.block 1 (lb rfl) rfl,trivial⟩) ?_;refine Qf (by kernel_rfl) ?_;refine ac J4 ?_;refine ai ?_;refine ae ?_;refine aF (dd _) (λ_ s=>ak [0] rfl s) ?_;refine dI rfl ?_;exact(congrArg (λq=>[cF V r q]) (if_pos h13)).symm;exact bz;exact bz;refine nx J3 ?_;refine tl rfl ?_;refine aT ?_;refine ac J2 ?_;refine sr λ_ J5=>?_
 refine mv ?_;refine tp (PV.ifaceNotNil rfl Tryz.underlying152 rfl) ?_;refine nx J5 ?_;refine iS rfl ?_;refine ad ?_;refine mv ?_;refine mv ?_;refine tp (aM (vs:=ints m.flat) rfl bd rfl cd rfl (dR 0 rfl rfl) (aG m) (whole (aG m))) ?_;refine TL.callI (aa rfl) rfl rfl rfl rfl V.me V.nm rfl (GH V r s to' m) (λ_ s=>aB [1] rfl s) (λ_ _ _=>trivial) (λvR HR hR=>?_);obtain rfl:=hR;refine aq ?_;refine aF (dd _) (λ_ s=>ak [0] rfl s) ?_;refine bp rfl ?_;exact(congrArg (λq=>[cF V r q]) (if_neg h13)).symm
theorem js{δ:Type}(V:Env δ)(r:Nat)(s:MS δ)(to':Int)(m:MsgT)(hto:to'≠s.id)[OkR V.toDk s]:DT 128 #[.pointer (some ⟨r,0,none⟩), .iface V.T V.ov, .int .i64 to', .agg (ints m.flat).toArray] T0 [cF V r s] (dh (λ_ H=>H=[cF V r (iM V.toDk s [⟨to',m⟩])])):=by
 have h:=gh V r s to' m id (λe=>absurd e hto)
 rwa [show nt V.toDk id s to' m=iM V.toDk s [⟨to',m⟩]from if_neg hto]at h
theorem nV{δ:Type}(V:Env δ)(r:Nat)(s:MS δ)(l:List SaidT)(to':Int)(m:MsgT)(hto:to'≠s.id)[OkR V.toDk s]:DT 128 #[.pointer (some ⟨r,0,none⟩), .iface V.T V.ov, .int .i64 to', .agg (ints m.flat).toArray] T0 [cF V r (iM V.toDk s l)] (dh (λ_ H=>H=[cF V r (iM V.toDk s (l++[⟨to',m⟩]))])):=by
 have h:=js V r (iM V.toDk s l) to' m hto
 rwa [IB]at h
theorem MQ{δ:Type}{V:Env δ}{r:Nat}{a b:MS δ}(h:a=b):[cF V r a]=[cF V r b]:=by rw[h]
theorem nF{δ:Type}(V:Env δ)(r:Nat)(s:MS δ)[OkR V.toDk s]:
 DT 83 #[(.pointer (some ⟨r,0,none⟩)),(.iface V.T V.ov)] T0 [cF V r s] (dh (λ_ H=>H=[cF V r (fo V.toDk s)])):=by
 refine BD 40 Tryz.func83 rfl rfl rfl λw0 F hF=>?_
 have hid:cH s.id=true:=OkR.id;have hid2:0≤s.id∧s.id<5:=of_decide_eq_true hid;refine ab λ_ J1=>DB mixed (cO 0 rfl rfl) ?_
 refine PD 0 ?_;refine PD 1 ?_;refine FD 2 0 c9 aR ?_;refine ta 3 rfl (de (v:=(.int .i64 (s.id))) rfl Y3 rfl rfl (λ_ h=>h.2.1) (λa_=>(cD _ rfl))) ?_;refine PD 4 ?_;refine PD 5 ?_;refine FD 6 9 c9 ba ?_;refine ta 7 rfl (fW (vs:=ints s.own.flat) rfl dU rfl ba rfl (λ_ h=>h.2.1) (aj s.own) (λa_=>(yF (s.rep a_) 0 rfl (by decide) (whole (aj ((s.rep a_).own)))))) ?_;refine ta 8 rfl (ll MsgT.zero (MsgT.mk 0 s.id s.own 0 0 BallotT.zero BallotT.zero ChangeT.zero ViewT.zero) [(0,[Value.int .i64 0]),(1,[Value.int .i64 s.id]),(2,ints s.own.flat)] bd bq (g:=MsgT.sg)) ?_;refine AL 9 ?_;refine XZ mn (ints MsgT.zero.flat) λb4=>?_
 refine EN (AL 10 ?_);refine SW 0 cd aG ?_;refine EN (DN (ac J1 (sr λ_ J2=>P2 ?_)));refine FA 0 c9 aR ?_;refine LG 1 Y3 (.int .i64 (s.id)) ?_ (hc:=by exact λa_=>(cD _ rfl));refine CR Cj (qB s.id hid) ID λvR HR hR=>?_
 obtain⟨_,rfl,rfl⟩:=hR;revert vR;intro uw;refine im 0 rfl rfl (λhluw _=>g9 0 rfl rfl (by omega) (λgw capw hvw hcapw=>tp (dq rfl iL rfl hluw) ?_));refine PS ?_;refine nx J2 (au (sh 2 (sr λ_ J3=>PS ?_)));refine nx J3 (ab λ_ J4=>CY (qx J4 (ab λ_ J5=>au (sr λ_ J6=>tp (be (r:=0) hvw rfl iL aR rfl rfl (by omega) (by omega) rfl) ?_))));refine tp (ca (v:=(.int .i64 (((s.id+1)%5)))) rfl Y3 rfl rfl (fD 0 rfl hvw rfl) rfl) ?_;refine PS ?_;refine nx J6 (sr λ_ J7=>P2 ?_);refine FA 1939 c9 aR ?_;refine LG 2 Y3 (.int .i64 (s.kept)) ?_ (hc:=by exact λa_=>(rZ _ rfl));refine PS ?_;refine tp (jX (r:=(s.kept.fdiv (2^min (((s.id+1)%5)).toNat IntKind.i64.bits))) rfl rfl rfl (by omega) rfl) ?_;refine tp (pD (r:=((s.kept.fdiv (2^min (((s.id+1)%5)).toNat IntKind.i64.bits))%2)) rfl rfl rfl (mask (k:=1) (by decide) _)) ?_;refine PS ?_;refine ao ?_ ?_<;>intro h33;refine nx J7 (CY (ad (P3 ?_)));refine LW 1 bd cd aG ?_;refine CZ je (js V r s ((s.id+1)%5) (MsgT.mk 0 s.id s.own 0 0 BallotT.zero BallotT.zero ChangeT.zero ViewT.zero) (by omega)) (SM [2]) λvR=>?_
 refine aq (ag (ac J5 (ad (tp (cq (r:=1) rfl rfl rfl (by decide)) ?_))));refine PS ?_;refine aq (ek (sr λ_ J8=>PS ?_));refine nx J8 (ab λ_ J9=>CY (qx J9 (ab λ_ J10=>au (sr λ_ J11=>tp (be (r:=1) hvw rfl iL aR rfl rfl (by omega) (by omega) rfl) ?_))));refine tp (ca (v:=(.int .i64 (((s.id+2)%5)))) rfl Y3 rfl rfl (fD 1 rfl hvw rfl) rfl) ?_;refine PS ?_;refine nx J11 (sr λ_ J12=>P2 ?_);refine FA 1939 c9 aR ?_;refine LG 0 Y3 (.int .i64 (s.kept)) ?_ (hc:=by exact λa_=>(rZ _ rfl));refine PS ?_;refine tp (jX (r:=(s.kept.fdiv (2^min (((s.id+2)%5)).toNat IntKind.i64.bits))) rfl rfl rfl (by omega) rfl) ?_;refine tp (pD (r:=((s.kept.fdiv (2^min (((s.id+2)%5)).toNat IntKind.i64.bits))%2)) rfl rfl rfl (mask (k:=1) (by decide) _)) ?_;refine PS ?_;refine ao ?_ ?_<;>intro h33;refine nx J12 (CY (ad (P3 ?_)));refine LW 2 bd cd aG ?_;refine CZ je (nV V r s ([SaidT.mk ((s.id+1)%5) (MsgT.mk 0 s.id s.own 0 0 BallotT.zero BallotT.zero ChangeT.zero ViewT.zero)]) ((s.id+2)%5) (MsgT.mk 0 s.id s.own 0 0 BallotT.zero BallotT.zero ChangeT.zero ViewT.zero) (by omega)) ID λvR=>?_
 refine aq (ag (ac J10 (ad (tp (cq (r:=2) rfl rfl rfl (by decide)) ?_))));refine PS ?_;refine aq (ek (sr λ_ J13=>PS ?_));refine nx J13 (ab λ_ J14=>CN (aY (aC (aC (bo (WK [0] (bp rfl ?_)))))));exact MQ (by rw[fo,show pR (s.rep .nil)=[SaidT.mk ((s.id+1)%5) (MsgT.mk 0 s.id s.own 0 0 BallotT.zero BallotT.zero ChangeT.zero ViewT.zero)]++[SaidT.mk ((s.id+2)%5) (MsgT.mk 0 s.id s.own 0 0 BallotT.zero BallotT.zero ChangeT.zero ViewT.zero)]by rw[pR,gR,if_pos hid];simp[Ba,wL,MsgT.zero,Adr.nil, *]]);refine nx J12 (CN (aT (ag (ac J10 (ad (tp (cq (r:=2) rfl rfl rfl (by decide)) ?_))))));refine PS ?_;refine aq (ek (sr λ_ J15=>PS ?_));refine nx J15 (ab λ_ J16=>CN (aY (aC (aC (bo (WK [0] (bp rfl ?_)))))));exact MQ (by rw[fo,show pR (s.rep .nil)=[SaidT.mk ((s.id+1)%5) (MsgT.mk 0 s.id s.own 0 0 BallotT.zero BallotT.zero ChangeT.zero ViewT.zero)]by rw[pR,gR,if_pos hid];simp[Ba,wL,MsgT.zero,Adr.nil, *]]);refine nx J7 (CN (aT (ag (ac J5 (ad (tp (cq (r:=1) rfl rfl rfl (by decide)) ?_))))));refine PS ?_;refine aq (ek (sr λ_ J17=>PS ?_));refine nx J17 (ab λ_ J18=>CY (qx J18 (ab λ_ J19=>au (sr λ_ J20=>tp (be (r:=1) hvw rfl iL aR rfl rfl (by omega) (by omega) rfl) ?_))));refine tp (ca (v:=(.int .i64 (((s.id+2)%5)))) rfl Y3 rfl rfl (fD 0 rfl hvw rfl) rfl) ?_;refine PS ?_;refine nx J20 (sr λ_ J21=>P2 ?_);refine FA 1939 c9 aR ?_;refine LG 2 Y3 (.int .i64 (s.kept)) ?_ (hc:=by exact λa_=>(rZ _ rfl))
 refine PS ?_;refine tp (jX (r:=(s.kept.fdiv (2^min (((s.id+2)%5)).toNat IntKind.i64.bits))) rfl rfl rfl (by omega) rfl) ?_;refine tp (pD (r:=((s.kept.fdiv (2^min (((s.id+2)%5)).toNat IntKind.i64.bits))%2)) rfl rfl rfl (mask (k:=1) (by decide) _)) ?_;refine PS ?_;refine ao ?_ ?_<;>intro h33;refine nx J21 (CY (ad (P3 ?_)));refine LW 1 bd cd aG ?_;refine CZ je (js V r s ((s.id+2)%5) (MsgT.mk 0 s.id s.own 0 0 BallotT.zero BallotT.zero ChangeT.zero ViewT.zero) (by omega)) (SM [2]) λvR=>?_
 refine aq (ag (ac J19 (ad (tp (cq (r:=2) rfl rfl rfl (by decide)) ?_))));refine PS ?_;refine aq (ek (sr λ_ J22=>PS ?_));refine nx J22 (ab λ_ J23=>CN (aY (aC (aC (bo (WK [0] (bp rfl ?_)))))));exact MQ (by rw[fo,show pR (s.rep .nil)=[SaidT.mk ((s.id+2)%5) (MsgT.mk 0 s.id s.own 0 0 BallotT.zero BallotT.zero ChangeT.zero ViewT.zero)]by rw[pR,gR,if_pos hid];simp[Ba,wL,MsgT.zero,Adr.nil, *]]);refine nx J21 (CN (aT (ag (ac J19 (ad (tp (cq (r:=2) rfl rfl rfl (by decide)) ?_))))));refine PS ?_;refine aq (ek (sr λ_ J24=>PS ?_));refine nx J24 (ab λ_ J25=>CN (aY (aC (aC (bo (WK [2] (bp rfl ?_)))))));exact MQ (by rw[fo,show pR (s.rep .nil)=[]by rw[pR,gR,if_pos hid];simp[Ba,wL,MsgT.zero,Adr.nil, *]];exact(p2 _ _).symm)
theorem mN{δ:Type}(V:Env δ)(r:Nat)(s:MS δ)(y:RowT)[OkR V.toDk s]:
 DT 88 #[(.pointer (some ⟨r,0,none⟩)),(.iface V.T V.ov),(.agg (ints y.flat).toArray)] T0 [cF V r s] (dh (λ_ H=>H=[cF V r (mD V.toDk s y)])):=by
 refine BD 27 Tryz.func88 rfl rfl rfl λw0 F hF=>sr λ_ J1=>XY (ints y.flat) λb5=>?_
 refine nx J1 (sr λ_ J2=>PS ?_);refine nx J2 (au ?_)
 refine bu (α:=(Nat)) (λk=>k≤5) (λk=>[(0,(.pointer (some ⟨r,0,none⟩))),(1,(.iface V.T V.ov)),(5,(.pointer (some ⟨b5,0,none⟩))),(7,(.int .i64 (((k:Nat):Int))))]) (λk=>[ah b5 (ints y.flat) 39,cF V r (iM V.toDk s (n5 s.id (sQ s.id y) (λ_=>true) k))]) (λk=>5-k) 0
  (aN _) SB
  (λ_ q=>by
  rw[show n5 s.id (sQ s.id y) (λ_=>true) 0=[]from rfl,p2]
  exact q) (λk hinv=>?_)
 obtain hk:=hinv;refine sr λ_ J3=>PS ?_
 refine ao ?_ ?_<;>intro h8;refine nx J3 (ab λ_ J4=>CY (qx J4 (ab λ_ J5=>au (sr λ_ J6=>P2 ?_))));refine nx J6 (sr λ_ J7=>P3 ?_);refine FA 0 c9 aR ?_;refine LG 1 Y3 (.int .i64 (s.id)) ?_ (hc:=by exact λa_=>(cD _ rfl));refine PS ?_;refine ao ?_ ?_<;>intro h15;refine nx J7 (CY (DC mixed (cO 1 rfl rfl) (BL 0) ?_));refine PD 0 ?_;refine PD 1 ?_;refine PD 2 ?_;refine PD 3 ?_;refine PD 4 ?_;refine FD 5 0 c9 aR ?_;refine ta 6 rfl (de (v:=(.int .i64 (s.id))) rfl Y3 rfl rfl (λ_ h=>h.2.1) (λa_=>(cD _ rfl))) ?_;refine LY 7 dU ba aj ?_;refine ta 8 rfl (ll MsgT.zero (MsgT.mk 2 s.id y 0 0 BallotT.zero BallotT.zero ChangeT.zero ViewT.zero) [(0,[Value.int .i64 2]),(1,[Value.int .i64 s.id]),(2,ints y.flat)] bd bq (g:=MsgT.sg)) ?_;refine AL 9 ?_;refine CZ je (nV V r s (n5 s.id (sQ s.id y) (λ_=>true) k) ((k:Nat):Int) (MsgT.mk 2 s.id y 0 0 BallotT.zero BallotT.zero ChangeT.zero ViewT.zero) h15) (SM [1]) λvR=>?_
 refine EN (DN (ag (ac J5 (ad (AD ?_)))));refine PS ?_;refine aq ?_
 exact aJ ((k+1):(Nat)) (by omega) (by show 5- (k+1)<5-k;omega)
  SB
  (λ_ q=>by
   rw[iB,if_pos ⟨h15,rfl⟩]
   exact ak [1,0] rfl q)
 refine nx J7 (CN (aT (ag (ac J5 (ad (AD ?_))))));refine PS ?_;refine aq ?_
 exact aJ ((k+1):(Nat)) (by omega) (by show 5- (k+1)<5-k;omega)
  SB
  (λ_ q=>by
   rw[iB,if_neg (by omega)];rw[aP]
   exact ak [0,0] rfl q)
 refine nx J3 (ab λ_ J8=>CN (aY (aC (aC (bo (WK [1] (bp rfl ?_)))))));obtain rfl:k=5:=by omega
 exact rfl
theorem mM{δ:Type}(V:Env δ)(r:Nat)(s:MS δ)(v:ViewT)[OkR V.toDk s]:
 DT 86 #[(.pointer (some ⟨r,0,none⟩)),(.iface V.T V.ov),(.agg (ints v.flat).toArray)] T0 [cF V r s] (dh (λ_ H=>H=[cF V r (nS V.toDk s v)])):=by
 refine BD 23 Tryz.func86 rfl rfl rfl λw0 F hF=>sr λ_ J1=>XY (ints v.flat) λb5=>?_
 refine nx J1 (sr λ_ J2=>PS ?_);refine nx J2 (au ?_)
 refine bu (α:=(Nat)) (λk=>k≤5) (λk=>[(0,(.pointer (some ⟨r,0,none⟩))),(1,(.iface V.T V.ov)),(5,(.pointer (some ⟨b5,0,none⟩))),(7,(.int .i64 (((k:Nat):Int))))]) (λk=>[ah b5 (ints v.flat) 32,cF V r (iM V.toDk s (n5 s.id (j5 v) (λ_=>true) k))]) (λk=>5-k) 0
  (aN _) SB
  (λ_ q=>by
  rw[show n5 s.id (j5 v) (λ_=>true) 0=[]from rfl,p2]
  exact q) (λk hinv=>?_)
 obtain hk:=hinv;refine sr λ_ J3=>PS ?_
 refine ao ?_ ?_<;>intro h8;refine nx J3 (ab λ_ J4=>CY (qx J4 (ab λ_ J5=>au (sr λ_ J6=>P2 ?_))));refine nx J6 (sr λ_ J7=>P3 ?_);refine FA 0 c9 aR ?_;refine LG 1 Y3 (.int .i64 (s.id)) ?_ (hc:=by exact λa_=>(cD _ rfl));refine PS ?_;refine ao ?_ ?_<;>intro h15;refine nx J7 (CY (ad (P3 ?_)));refine LW 0 eE bf am ?_;refine tp (ll MsgT.zero (MsgT.mk 7 0 RowT.zero 0 0 BallotT.zero BallotT.zero ChangeT.zero v) [(0,[Value.int .i64 7]),(8,ints v.flat)] bd bq (g:=MsgT.sg)) ?_;refine CZ je (nV V r s (n5 s.id (j5 v) (λ_=>true) k) ((k:Nat):Int) (MsgT.mk 7 0 RowT.zero 0 0 BallotT.zero BallotT.zero ChangeT.zero v) h15) (SM [1]) λvR=>?_
 refine aq (ag (ac J5 (ad (AD ?_))));refine PS ?_;refine aq ?_
 exact aJ ((k+1):(Nat)) (by omega) (by show 5- (k+1)<5-k;omega)
  SB
  (λ_ q=>by
   rw[iB,if_pos ⟨h15,rfl⟩]
   exact ak [1,0] rfl q)
 refine nx J7 (CN (aT (ag (ac J5 (ad (AD ?_))))));refine PS ?_;refine aq ?_
 exact aJ ((k+1):(Nat)) (by omega) (by show 5- (k+1)<5-k;omega)
  SB
  (λ_ q=>by
   rw[iB,if_neg (by omega)];rw[aP]
   exact ak [0,0] rfl q)
 refine nx J3 (ab λ_ J8=>CN (aY (aC (aC (bo (WK [1] (bp rfl ?_)))))));obtain rfl:k=5:=by omega
 exact rfl
theorem GV{δ:Type}(V:Env δ)(r lg:Nat)(x:RepT)(m:RecT)(e:δ)(l:List SaidT)(hlog:x.log= .pointer (some ⟨lg,0,none⟩))(hok:V.ok e):
 DT 114 #[(.pointer (some ⟨r,0,none⟩)),(.agg (ints m.flat).toArray)] T0 [ah r (RepT.cells x) 87,V.lg lg e,V.E e l] (RI (.int .i64 (V.pt e (kh m)).2) [ah r (RepT.cells x) 87,V.lg lg (V.pt e (kh m)).1,V.E (V.pt e (kh m)).1 l]):=by
 refine BD 12 Tryz.func114 rfl rfl rfl λw0 F hF=>sr λ_ J1=>XY (ints m.flat) λb3=>?_
 refine PS ?_;refine nx J1 (ab λ_ J2=>D2 1 0 mixed ?_);refine PD 0 ?_;refine PD 1 ?_;refine FD 2 1 c9 Pc ?_;refine LX 3 Tryz.underlying74 (.pointer (some ⟨lg,0,none⟩)) ?_ (hc:=by exact(RepT.at_log x rfl).trans (congrArg some hlog));refine LY 4 eb fG bl ?_;refine AL 5 ?_;refine CR N8 (B9 m) ID λvR HR hR=>?_
 obtain⟨_,rfl,rfl⟩:=hR;revert vR;intro ue;refine EN (AL 6 ?_);refine CF N9 (V.put lg ue (kh m) e l hok (CO m)) (SM [3,3]) (λg d s=>Gc (vJ 0 rfl rfl g d s)) ?_;refine EN (PD 7 ?_);exact DN (ac J2 (ai (WK [4,0,0] (av rfl rfl ⟨rfl,rfl⟩))))
theorem ld{δ:Type}(V:Env δ)(r:Nat)(s:MS δ)(m:RecT)[hs:OkR V.toDk s]:DT 114 #[.pointer (some ⟨r,0,none⟩), .agg (ints m.flat).toArray] T0 [cF V r s] (RI (.int .i64 (sN V.toDk s m)) [cF V r (eh V.toDk s m)]):=
 Leg.Does.pack λa=>Leg.Does.withinR (GV V r a.lg (s.rep a) m s.e s.o rfl hs.e) (λ_ _ _ _=>trivial) (λ_ q=>aB [0,0,2] rfl q) λv H hp=>by
  obtain⟨h1,rfl⟩:=hp;exact⟨_,λ_ q=>bn (p:=λa:Adr=>[ah r (RepT.cells ((eh V.toDk s m).rep a)) 87,V.lg a.lg (eh V.toDk s m).e,own a.rs (eh V.toDk s m).replies.length (ints ((eh V.toDk s m).replies.flatMap ReplyT.flat)) 47 3,Fs a.vo (eh V.toDk s m).vote,V.E (eh V.toDk s m).e (eh V.toDk s m).o]) a (aB [0,0,1,1,0] rfl q),h1,rfl⟩
theorem eX{δ:Type}(V:Env δ)(r:Nat)(s:MS δ)(op err val:Int)(hrs:s.replies.length≤1000000):DT 74 #[.pointer (some ⟨r,0,none⟩), .int .i64 op, .int .i64 err, .int .i64 val] T0 [cF V r s] (dh (λ_ H=>H=[cF V r (dv s op err val)])):=
 Leg.Does.pack λa=>Leg.Does.withinR (Ed r (s.rep a) op err val s.replies hrs) (λ_ _ _ _=>trivial) (λ_ q=>aB [0,1] rfl q) λv H hp=>by
  obtain⟨v',_,rfl⟩:=hp;exact⟨_,λ_ q=>bn (p:=λa:Adr=>[ah r (RepT.cells ((dv s op err val).rep a)) 87,V.lg a.lg (dv s op err val).e,own a.rs (dv s op err val).replies.length (ints ((dv s op err val).replies.flatMap ReplyT.flat)) 47 3,Fs a.vo (dv s op err val).vote,V.E (dv s op err val).e (dv s op err val).o]) {a with rs:=v'} (aB [0,1,0,0,0] rfl q),rfl⟩
theorem rP{δ:Type}(V:Env δ)(r:Nat)(s:MS δ)(y:RowT)(op:Int)[OkR V.toDk s][OkRow y]:
 DT 75 #[(.pointer (some ⟨r,0,none⟩)),(.iface V.T V.ov),(.agg (ints y.flat).toArray),(.int .i64 (op))] T0 [cF V r s] (RI (.int .i64 (eQ V.toDk s y op).2) [cF V r (eQ V.toDk s y op).1]):=by
 refine BD 34 Tryz.func75 rfl rfl rfl λw0 F hF=>sr λ_ J1=>XY (ints y.flat) λb6=>?_
 refine PS ?_;refine nx J1 (ab λ_ J2=>sr λ_ J3=>PS ?_);refine LW 0 dU ba aj ?_;refine tp (ll RecT.zero (RecT.mk 0 0 y 0 BallotT.zero ChangeT.zero ViewT.zero) [(0,[Value.int .i64 0]),(2,ints y.flat)] eb e5 (g:=RecT.sg)) ?_;refine CE w5 (ld V r s (kL y)) (SM [1]) ?_;refine PS ?_;refine nx J3 (sr λ_ J4=>P2 ?_);refine ao ?_ ?_<;>intro h15;refine nx J4 (CY (sr λ_ J5=>P2 ?_));refine nx J5 (ai (ae (WK [0] (av rfl rfl ?_))));have e:eQ V.toDk s y op=(eh V.toDk s (kL y),sN V.toDk s (kL y)):=if_pos h15;exact jC e;refine nx J4 (CN (qx J2 (sr λ_ J6=>P4 ?_)));refine LW 1 dU ba aj ?_;refine P2 ?_;refine FA 9 c9 ba ?_;refine gP (vs:=ints y.flat) (i:=0) (aa rfl) rfl rfl rfl rfl rfl (by rw[(aj y)];exact ba) (bj _) rfl rfl (λ_=>LC (cN _) (aj _)) (λa_=>(Qi ((eh V.toDk s (kL y)).rep a_) 0 rfl (by have h1:=(aj y);omega) (cr ((aj (((eh V.toDk s (kL y)).rep a_).own)).trans (aj y).symm)))) (PS ?_);refine FA 1938 c9 k0 ?_;refine SK 0 k0 (λ_=>cN _) ?_ (hc:=by exact λa_=>(PX _ rfl _));refine PS ?_;refine FA 1939 c9 aR ?_;refine SK 0 aR (λ_=>cN _) ?_ (hc:=by exact λa_=>(PW _ rfl _));refine PS ?_;refine FA 1940 c9 aR ?_;refine SK 0 aR (λ_=>cN _) ?_ (hc:=by exact λa_=>(RepT.set_waits _ rfl _));refine nx J6 (sr λ_ J7=>P2 ?_);refine CZ MH (nF V r (uT (eh V.toDk s (kL y)) y op)) ID λvR=>?_
 refine nx J7 (sr λ_ J8=>PS ?_);refine nx J8 (ai (WK [0] (av rfl rfl ?_)));have e:eQ V.toDk s y op=(fo V.toDk (uT (eh V.toDk s (kL y)) y op),0):=if_neg h15;exact jC e
theorem pc(x:RowT)(who:Int)(d:RowT):
 DT 131 #[(.agg (ints x.flat).toArray),(.int .i64 (who)),(.agg (ints d.flat).toArray)] T0 [] (RI (.tuple #[.agg (ints (dT x who d).1.flat).toArray, .int .i64 (dT x who d).2]) []):=by
 refine BD 68 Tryz.func131 rfl rfl rfl λw0 F hF=>sr λ_ J1=>XY (ints x.flat) λb3=>?_
 refine XY (ints d.flat) λb5=>?_
 refine XZ uu (ints RowT.zero.flat) λb6=>?_
 refine PS ?_;refine nx J1 (ab λ_ J2=>sr λ_ J3=>PS ?_);refine CE KB (j6 who) ID ?_;refine bc ?_ ?_<;>intro h11;have hw:cH who=true:=by simpa using h11
 have hw2:0≤who∧who<5:=of_decide_eq_true hw;refine PS ?_;refine nx J3 (CN (qx J2 (ab λ_ J4=>sr λ_ J5=>PS ?_)));refine FA 29 dU eV ?_;refine IX (29+who.toNat) jK aR ?_;refine LT 2 Y3 (.int .i64 ((x.heir[who.toNat]'(by omega)))) ?_ (hc:=by exact rY x (who.toNat) (by omega) (by omega) (kl x.heir (by omega)));refine PS ?_;refine ao ?_ ?_<;>intro h18;refine nx J5 (CY (sr λ_ J6=>BV ((ints RowT.zero.flat).toArray) ?_));refine SW 0 ba aj ?_;refine PS ?_;refine nx J6 (ai (ae (RT 0 [] dU ba (aj _) ?_)));have e:dT x who d=(.zero,8):=by rw[dT,hw,fR,dif_pos hw,if_neg (by decide),if_pos h18]
 exact⟨by rw[e],rfl⟩;refine nx J5 (CN (qx J4 (ab λ_ J7=>D1 1 mixed ?_)));refine PD 0 ?_;refine PD 1 ?_;refine FD 2 0 dU aR ?_;refine LR 3 Y3 (cx d rfl) ?_;refine ta 4 rfl (cq (r:=(fO (d.version+1))) rfl rfl rfl rfl) ?_;refine FD 5 1 dU ly ?_;refine ta 6 rfl (aM (vs:=ints (bR d.cells.toList)) rfl Be rfl ly rfl (λ_ h=>h.2.1) (ee d.cells) (Dt d 0 rfl (by decide) (whole (ee d.cells)))) ?_;refine FD 7 29 dU eV ?_;refine IY 8 (29+who.toNat) jK aR ?_;refine FD 10 34 dU By ?_;refine AL 9 ?_;refine bw (i:=2) (aa rfl) rfl rfl rfl rfl rfl aR rfl rfl (LB (aj _)) (RowT.st_heir x (who.toNat) (by omega) (by omega) (yW x.heir (by omega) _)) rfl (EN (IY 11 (34+who.toNat*28) Mh ly ?_));refine AL 12 ?_;refine bP (vs:=ints (bR d.cells.toList)) (i:=2) (aa rfl) rfl rfl rfl rfl rfl (by rw[(ee d.cells)];exact ly) (bj _) rfl rfl (LC (aj _) (ee _)) (RowT.wr_left_ (RowT.mk x.version x.cells (x.heir.set who.toNat (fO (d.version+1)) (by omega)) x.left) (who.toNat*28) (by omega) (by have h1:=(ee d.cells);omega) (ux tA x.left (i:=who.toNat) 0 (by omega) (by omega) (by have h1:=(ee d.cells);omega) (cr ((ee (x.left[who.toNat]'(by omega))).trans (ee d.cells).symm)))) rfl (EN (DN (ac J7 (ab λ_ J8=>sr λ_ J9=>FA 29 dU eV ?_))));refine tp (aM (vs:=ints d.heir.toList) rfl jK rfl eV rfl (RO 1) (di d.heir) (PO d 0 rfl (by decide) (whole (di d.heir)))) ?_;refine PS ?_;refine nx J9 (au ?_)
 refine bu (α:=(Nat)×(RowT)) (λ⟨k,y⟩=>k≤5∧y=og x who d k) (λ⟨k,y⟩=>[(1,(.int .i64 (who))),(3,(.pointer (some ⟨b3,0,none⟩))),(5,(.pointer (some ⟨b5,0,none⟩))),(6,(.pointer (some ⟨b6,0,none⟩))),(7,(.int .i64 0)),(32,(.agg (ints d.heir.toList).toArray)),(33,(.int .i64 (((k:Nat):Int))))]) (λ⟨k,y⟩=>[ah b6 (ints RowT.zero.flat) 39,ah b5 (ints d.flat) 39,ah b3 (ints y.flat) 39]) (λ⟨k,y⟩=>5-k) (0,(RowT.mk x.version x.cells (x.heir.set who.toNat (fO (d.version+1)) (by omega)) (x.left.set who.toNat d.cells (by omega))))
  ⟨aN _,by rw[og,oK,dif_pos hw];rfl⟩ SB
  (λ_ s=>ak [0,0,0] rfl s) (λ⟨k,y⟩ hinv=>?_)
 obtain⟨hk,hy⟩:=hinv;refine sr λ_ J10=>PS ?_
 refine ao ?_ ?_<;>intro h34;refine nx J10 (ab λ_ J11=>CY (qx J11 (ab λ_ J12=>au (sr λ_ J13=>PS ?_))));refine tp (nB (cs:=ints d.heir.toList) (v:=Value.int .i64 (d.heir[k]'(by omega))) (r:=k) rfl jK Y3 rfl aR rfl rfl (by omega) (by omega) (by omega) (kl d.heir (by omega))) ?_;refine P2 ?_;refine nx J13 (sr λ_ J14=>P3 ?_);refine ao ?_ ?_<;>intro h39;refine P3 ?_;refine ao ?_ ?_<;>intro h42;refine P3 ?_;refine FA 29 dU eV ?_;refine IX (29+k) jK aR ?_;refine LT 2 Y3 (.int .i64 ((y.heir[k]'(by omega)))) ?_ (hc:=by exact rY y k (by omega) (by omega) (kl y.heir (by omega)));refine PS ?_;refine ao ?_ ?_<;>intro h49;refine PS ?_;refine nx J14 (CY (D1 1 mixed ?_));refine PD 0 ?_;refine PD 1 ?_;refine PD 2 ?_;refine PD 3 ?_;refine FD 4 34 dU By ?_;refine IY 5 (34+k*28) Mh ly ?_;refine ta 6 rfl (aM (vs:=ints (bR (d.left[k]'(by omega)).toList)) rfl Be rfl ly rfl (λ_ h=>h.2.1) (ee (d.left[k]'(by omega))) (F9 d (k*28) (by omega) (by omega) (kF tA d.left (i:=k) 0 (by omega) (by omega) (by decide) (whole (ee (d.left[k]'(by omega))))))) ?_;refine FD 7 29 dU eV ?_;refine IY 8 (29+k) jK aR ?_;refine FD 10 34 dU By ?_;refine AL 9 ?_;refine bw (i:=2) (aa rfl) rfl rfl rfl rfl rfl aR rfl rfl (LB (aj _)) (RowT.st_heir y k (by omega) (by omega) (yW y.heir (by omega) _)) rfl (EN (IY 11 (34+k*28) Mh ly ?_));refine AL 12 ?_
 refine bP (vs:=ints (bR (d.left[k]'(by omega)).toList)) (i:=2) (aa rfl) rfl rfl rfl rfl rfl (by rw[(ee (d.left[k]'(by omega)))];exact ly) (bj _) rfl rfl (LC (aj _) (ee _)) (RowT.wr_left_ (RowT.mk y.version y.cells (y.heir.set k (d.heir[k]'(by omega)) (by omega)) y.left) (k*28) (by omega) (by have h1:=(ee (d.left[k]'(by omega)));omega) (ux tA y.left (i:=k) 0 (by omega) (by omega) (by have h1:=(ee (d.left[k]'(by omega)));omega) (cr ((ee (y.left[k]'(by omega))).trans (ee (d.left[k]'(by omega))).symm)))) rfl (EN (DN (ag (ac J12 (ad (AD ?_))))));refine PS ?_;refine aq ?_
 exact aJ ((k+1,(RowT.mk y.version y.cells (y.heir.set k (d.heir[k]'(by omega)) (by omega)) (y.left.set k (d.left[k]'(by omega)) (by omega)))):(Nat)×(RowT)) ⟨by omega,by rw[oW,←hy,ny,gz _ (by omega),gz _ (by omega),if_pos ⟨by omega,by omega,by omega⟩,D5 _ (by omega),Hp _ (by omega)]⟩ (by show 5- (k+1)<5-k;omega)
  SB
  (λ_ s=>ak [0,0,0] rfl s)
 refine PS ?_;refine nx J14 (CN (aT (ag (ac J12 (ad (AD ?_))))));refine PS ?_;refine aq ?_
 exact aJ ((k+1,y):(Nat)×(RowT)) ⟨by omega,by rw[oW,←hy,ny,gz _ (by omega),gz _ (by omega),if_neg (by omega)]⟩ (by show 5- (k+1)<5-k;omega)
  SB
  (λ_ s=>ak [0,0,0] rfl s)
 refine P2 ?_
 iterate 5 refine UF ?_
 refine PS ?_;refine nx J14 (CN (aT (ag (ac J12 (ad (AD ?_))))));refine PS ?_;refine aq ?_
 exact aJ ((k+1,y):(Nat)×(RowT)) ⟨by omega,by rw[oW,←hy,ny,gz _ (by omega),gz _ (by omega),if_neg (by omega)]⟩ (by show 5- (k+1)<5-k;omega)
  SB
  (λ_ s=>ak [0,0,0] rfl s)
 refine PS ?_;refine UF ?_;refine UF ?_;refine P2 ?_
 iterate 5 refine UF ?_
 refine PS ?_;refine nx J14 (CN (aT (ag (ac J12 (ad (AD ?_))))));refine PS ?_;refine aq ?_
 exact aJ ((k+1,y):(Nat)×(RowT)) ⟨by omega,by rw[oW,←hy,ny,gz _ (by omega),gz _ (by omega),if_neg (by omega)]⟩ (by show 5- (k+1)<5-k;omega)
  SB
  (λ_ s=>ak [0,0,0] rfl s)
 refine nx J10 (ab λ_ J15=>CN (aY (aC (aC (bo (ac J8 (sr λ_ J16=>FA 0 dU aR ?_)))))));refine LU 2 Y3 (cx y rfl) ?_;refine tp (cq (r:=(fO (y.version+1))) rfl rfl rfl rfl) ?_;refine FA 0 dU aR ?_;refine bw (i:=2) (aa rfl) rfl rfl rfl rfl rfl aR rfl rfl (LB (aj _)) (xX y rfl _) rfl (nx J16 (sr λ_ J17=>LW 2 dU ba aj ?_));refine SW 0 ba aj ?_;refine PS ?_;refine nx J17 (ai (RT 0 [] dU ba (aj _) ?_));obtain rfl:k=5:=by omega
 subst hy;have e:dT x who d=({og x who d 5 with version:=fO ((og x who d 5).version+1)},0):=by rw[dT,hw,fR,dif_pos hw,if_neg (by decide),if_neg h18]
 exact⟨by rw[e],rfl⟩;refine PS ?_;refine nx J3 (CY (sr λ_ J18=>BV ((ints RowT.zero.flat).toArray) ?_));refine SW 0 ba aj ?_;refine PS ?_;refine nx J18 (ai (ae (RT 0 [] dU ba (aj _) ?_)));have hw:cH who=false:=by simpa using h11
 have e:dT x who d=(.zero,5):=by rw[dT,hw];rfl
 exact⟨by rw[e],rfl⟩
theorem zr{δ:Type}(V:Env δ)(r:Nat)(s:MS δ)[OkR V.toDk s]:
 DT 129 #[(.pointer (some ⟨r,0,none⟩))] T0 [cF V r s] (dh (λr' H=>∃u,r'=u∧H=[own u (bG s).length (ints (bG s)) 3 1,cF V r s])):=by
 refine BD 44 Tryz.func129 rfl rfl rfl λw0 F hF=>sr λ_ J1=>PS ?_
 refine nx J1 (sr λ_ J2=>PS ?_);refine nx J2 (ab λ_ J3=>sr λ_ J4=>PS ?_);refine nx J4 (au ?_)
 refine bu (α:=(Nat)×(Value)) (λ⟨k,u⟩=>k≤5∧u.oneCell'=true) (λ⟨k,u⟩=>[(0,(.pointer (some ⟨r,0,none⟩))),(2,(.slice none 0 0)),(3,u),(7,(.int .i64 (((k:Nat):Int))))]) (λ⟨k,u⟩=>[own u ((gZ s k).length) (ints (gZ s k)) 3 1,cF V r s]) (λ⟨k,u⟩=>5-k) (0,(.slice none 0 0))
  ⟨aN _,rfl⟩ SB
  (λ_ s=>fP 3 1 (ak [0] rfl s)) (λ⟨k,u⟩ hinv=>?_)
 obtain⟨hk,hu⟩:=hinv;have hol:=HG s k;refine sr λ_ J5=>PS ?_
 refine ao ?_ ?_<;>intro h8;refine nx J5 (ab λ_ J6=>CY (qx J6 (ab λ_ J7=>au (sr λ_ J8=>P2 ?_))));refine nx J8 (sr λ_ J9=>P2 ?_);refine FA 2 c9 bf ?_;refine LZ 1 eE bf am s.view ?_ (hc:=by exact λ_=>cM _);refine PS ?_;refine CE KH (qM s.view ((k:Nat):Int) OkVw.rng) ID ?_;refine P3 ?_;refine bc ?_ ?_<;>intro h18;refine P2 ?_;refine nx J9 (sr λ_ J10=>?_)
 iterate 5 refine PS ?_
 refine FA 0 c9 aR ?_;refine LG 1 Y3 (.int .i64 (s.id)) ?_ (hc:=by exact λa_=>(cD _ rfl));refine PS ?_;refine ao ?_ ?_<;>intro h26
 iterate 5 refine PS ?_
 refine FA 9 c9 ba ?_;refine FA 38 dU eV ?_;refine IX (38+k) jK aR ?_;refine LG 1 Y3 (.int .i64 ((s.own.heir[k]'(by omega)))) ?_ (hc:=by exact λa_=>(RepT.pt_own (s.rep a_) (29+k) (by omega) (by omega) (rY ((s.rep a_).own) k (by omega) (by omega) (kl (((s.rep a_).own).heir) (by omega)))));refine PS ?_;refine ao ?_ ?_<;>intro h36;refine PS ?_;refine nx J10 (CY (ad (P2 ?_)));refine aQ (cells:=#[(.int .i64 (((k:Nat):Int)))]) (aa rfl) rfl rfl rfl iL oA rfl rfl rfl (by as_aux_lemma=>kernel_rfl) (λb40=>ci (k:=1) (news:=[(.int .i64 (((k:Nat):Int)))]) (nn':=(gZ s k).length+1) (xs':=ints (gZ s k)++[(.int .i64 (((k:Nat):Int)))]) (aa rfl) rfl rfl rfl iL oA rfl rfl rfl rfl rfl rfl (λ_ _=>gS rfl (RO 0) rfl) (by simp[Value.oneCell']) (by simp only[maxLen];omega) (by omega) (by simp) (by simp) (λv41 ov41=>PS ?_));refine aq (ag (ac J7 (ad (AD ?_))));refine PS ?_;refine aq ?_
 exact aJ ((k+1,v41):(Nat)×(Value)) ⟨by omega,ov41⟩ (by show 5- (k+1)<5-k;omega)
  SB
  (λ_ q=>by
   show bD [own v41 (gZ s (k+1)).length (ints (gZ s (k+1))) 3 1,cF V r s] _;rw[show gZ s (k+1)=gZ s k++[((k:Nat):Int)]by rw[oY,if_pos (MZ h18 h26 (by rw[gz _ (by omega)];exact h36))],af,ej]
   exact ak [1,1] rfl q)
 refine PS ?_;refine nx J10 (CN (aT (ag (ac J7 (ad (AD ?_))))));refine PS ?_;refine aq ?_
 exact aJ ((k+1,u):(Nat)×(Value)) ⟨by omega,hu⟩ (by show 5- (k+1)<5-k;omega)
  SB
  (λ_ q=>by
   show bD [own u (gZ s (k+1)).length (ints (gZ s (k+1))) 3 1,cF V r s] _;rw[show gZ s (k+1)=gZ s k by rw[oY,if_neg (by intro hq;have h2:=AS hq;rw[gz _ (by omega)]at h2;first|omega| (simp_all;done)| (simp_all;omega)),aP]]
   exact ak [0,0] rfl q)
 refine P2 ?_
 iterate 8 refine UF ?_
 refine PS ?_;refine nx J10 (CN (aT (ag (ac J7 (ad (AD ?_))))));refine PS ?_;refine aq ?_
 exact aJ ((k+1,u):(Nat)×(Value)) ⟨by omega,hu⟩ (by show 5- (k+1)<5-k;omega)
  SB
  (λ_ q=>by
   show bD [own u (gZ s (k+1)).length (ints (gZ s (k+1))) 3 1,cF V r s] _;rw[show gZ s (k+1)=gZ s k by rw[oY,if_neg (by intro hq;have h2:=AS hq;rw[gz _ (by omega)]at h2;first|omega| (simp_all;done)| (simp_all;omega)),aP]]
   exact ak [0,0] rfl q)
 refine P2 ?_;refine nx J9 (sr λ_ J11=>P2 ?_)
 iterate 6 refine UF ?_
 refine P2 ?_
 iterate 8 refine UF ?_
 refine PS ?_;refine nx J11 (CN (aT (ag (ac J7 (ad (AD ?_))))));refine PS ?_;refine aq ?_
 exact aJ ((k+1,u):(Nat)×(Value)) ⟨by omega,hu⟩ (by show 5- (k+1)<5-k;omega)
  SB
  (λ_ q=>by
   show bD [own u (gZ s (k+1)).length (ints (gZ s (k+1))) 3 1,cF V r s] _;rw[show gZ s (k+1)=gZ s k by rw[oY,if_neg (by intro hq;have h2:=AS hq;rw[gz _ (by omega)]at h2;first|omega| (simp_all;done)| (simp_all;omega)),aP]]
   exact ak [0,0] rfl q)
 refine nx J5 (ab λ_ J12=>CN (aY (aC (aC (bo (ac J3 (sr λ_ J13=>P2 ?_)))))));refine nx J13 (ai (WK [0,0] (av rfl rfl ?_)));obtain rfl:k=5:=by omega
 exact⟨u,rfl,rfl⟩
theorem np{δ:Type}(V:Env δ)(r:Nat)(s:MS δ)(who w:Int)(hm:cH who=true)(hw:0≤w∧w<5):
 DT 130 #[(.pointer (some ⟨r,0,none⟩)),(.int .i64 (who)),(.int .i64 (w))] T0 [cF V r s] (RI (.bool (wg s who w)) [cF V r s]):=by
 refine BD 17 Tryz.func130 rfl rfl rfl λw0 F hF=>?_
 have hm2:0≤who∧who<5:=of_decide_eq_true hm;refine sr λ_ J1=>PS ?_
 refine nx J1 (sr λ_ J2=>P3 ?_);refine FA 1943 c9 eV ?_;refine IX (1943+who.toNat) jK aR ?_;refine LG 0 Y3 (.int .i64 ((s.told[who.toNat]'(by omega)))) ?_ (hc:=by exact λa_=>(Qj (s.rep a_) (who.toNat) (by omega) (by omega) (kl ((s.rep a_).told) (by omega))));refine PS ?_;refine tp (jX (r:=((s.told[who.toNat]'(by omega)).fdiv (2^min w.toNat IntKind.i64.bits))) rfl rfl rfl (by omega) rfl) ?_;refine tp (pD (r:=(((s.told[who.toNat]'(by omega)).fdiv (2^min w.toNat IntKind.i64.bits))%2)) rfl rfl rfl (mask (k:=1) (by decide) _)) ?_;refine P2 ?_;refine nx J2 (ai (WK [0] (av rfl rfl ?_)));exact⟨by rw[wg,rl,dif_pos hm],rfl⟩
theorem o5{δ:Type}(V:Env δ)(r:Nat)(s:MS δ)[OkR V.toDk s]:
    DT 84 #[(.pointer (some ⟨r,0,none⟩)),(.iface V.T V.ov)] T0 [cF V r s] (dh (λ_ H=>H=[cF V r (m8 V.toDk s)])):=by
 refine BD 80 Tryz.func84 rfl rfl rfl λw0 F hF=>sr λ_ J1=>PS ?_
 refine CR L2 (zr V r s) ID λvR HR hR=>?_
 obtain⟨_,rfl,rfl⟩:=hR;revert vR;intro ud;refine im 0 rfl rfl (λhlud houd=>PS ?_);refine nx J1 (ab λ_ J2=>sr λ_ J3=>P2 ?_);refine FA 1938 c9 k0 ?_;refine LG 1 Y4 (.bool (s.busy)) ?_ (hc:=by exact λa_=>(yH _ rfl));refine bc ?_ ?_<;>intro h19;refine PS ?_
 iterate 3 refine UT ?_
 refine PS ?_;refine nx J3 (CY (ai (ae (WK [1] (dI rfl ?_)))));exact congrArg (λq=>[cF V r q]) (show s=m8 V.toDk s from(if_pos (by rw[h19];rfl)).symm);refine P2 ?_;refine tq (dq rfl iL rfl hlud) ?_;refine PS ?_;refine ao ?_ ?_<;>intro h23;refine PS ?_;refine nx J3 (CY (ai (ae (WK [1] (dI rfl ?_)))));exact congrArg (λq=>[cF V r q]) (show s=m8 V.toDk s from(if_pos (by rw[h19,decide_eq_true (by omega)];rfl)).symm);refine PS ?_;refine nx J3 (CN (qx J2 (ab λ_ J4=>sr λ_ J5=>PS ?_)));refine tp (dq rfl iL rfl hlud) ?_;refine PS ?_;refine nx J5 (au ?_)
 refine bu (α:=(Nat)) (λk=>k≤(bG s).length∧∀j,j<k→∀w∈gR ((bG s).getD j 0),wg s ((bG s).getD j 0) w=true) (λk=>[(0,(.pointer (some ⟨r,0,none⟩))),(1,(.iface V.T V.ov)),(4,ud),(25,ud),(26,(.int .i64 ((((bG s).length:Nat):Int)))),(27,(.int .i64 (((k:Nat):Int))))]) (λk=>[own ud ((bG s).length) (ints (bG s)) 3 1,cF V r s]) (λk=>(bG s).length-k) 0
     ⟨aN _,λj h=>absurd h (by omega)⟩ SB
     (λ_ s=>s) (λk hinv=>?_)
 obtain⟨hk,hal⟩:=hinv;refine sr λ_ J6=>PS ?_
 refine ao ?_ ?_<;>intro h28;refine nx J6 (ab λ_ J7=>CY (qx J7 (ab λ_ J8=>au (sr λ_ J9=>?_))));have hmm1:(bG s).getD k 0∈bG s:=by rw[List.getD_eq_getElem?_getD,List.getElem?_eq_getElem (by omega)];exact cR _
 have hm1:cH ((bG s).getD k 0)=true:=(xD hmm1).1;have hn1:0≤(bG s).getD k 0∧(bG s).getD k 0<5:=of_decide_eq_true hm1;refine g9 0 rfl rfl (by omega) (λge1 ce1 he1 _=>tp (be (r:=k) he1 rfl iL aR rfl rfl (by omega) (by omega) (by omega)) ?_);refine tp (ca (v:=(.int .i64 (((bG s).getD k 0)))) rfl Y3 rfl rfl (fD 0 rfl he1 rfl) (xp (by omega))) ?_;refine PS ?_;refine nx J9 (sr λ_ J10=>PS ?_);refine CR Cj (qB ((bG s).getD k 0) hm1) ID λvR HR hR=>?_
 obtain⟨_,rfl,rfl⟩:=hR;revert vR;intro uw;refine im 0 rfl rfl (λhluw _=>g9 0 rfl rfl (by omega) (λgw capw hvw hcapw=>tp (dq rfl iL rfl hluw) ?_));refine PS ?_;refine nx J10 (au (sh 2 (sr λ_ J11=>PS ?_)));refine nx J11 (ab λ_ J12=>CY (qx J12 (ab λ_ J13=>au (sr λ_ J14=>tp (be (r:=0) hvw rfl iL aR rfl rfl (by omega) (by omega) rfl) ?_))));refine tp (ca (v:=(.int .i64 (((((bG s).getD k 0)+1)%5)))) rfl Y3 rfl rfl (fD 0 rfl hvw rfl) rfl) ?_;refine PS ?_;refine nx J14 (sr λ_ J15=>P3 ?_);refine CE FM (np V r s ((bG s).getD k 0) ((((bG s).getD k 0)+1)%5) hm1 (by omega)) (SM [2]) ?_;refine bc ?_ ?_<;>intro h41;refine PS ?_;refine nx J15 (CN (aT (ag (ac J13 (ad (tp (cq (r:=1) rfl rfl rfl (by decide)) ?_))))));refine PS ?_;refine aq (ek (sr λ_ J16=>PS ?_));refine nx J16 (ab λ_ J17=>CY (qx J17 (ab λ_ J18=>au (sr λ_ J19=>tp (be (r:=1) hvw rfl iL aR rfl rfl (by omega) (by omega) rfl) ?_))));refine tp (ca (v:=(.int .i64 (((((bG s).getD k 0)+2)%5)))) rfl Y3 rfl rfl (fD 1 rfl hvw rfl) rfl) ?_;refine PS ?_;refine nx J19 (sr λ_ J20=>P3 ?_);refine CE FM (np V r s ((bG s).getD k 0) ((((bG s).getD k 0)+2)%5) hm1 (by omega)) ID ?_;refine bc ?_ ?_<;>intro h41;refine PS ?_;refine nx J20 (CN (aT (ag (ac J18 (ad (tp (cq (r:=2) rfl rfl rfl (by decide)) ?_))))));refine PS ?_;refine aq (ek (sr λ_ J21=>PS ?_));refine nx J21 (ab λ_ J22=>CN (aY (aC (aC (bo (ag (ac J8 (ad (AD ?_)))))))));refine PS ?_
 refine aq ?_
 exact aJ ((k+1):(Nat)) ⟨by omega,λj hj=>by
        by_cases q:j=k
        · subst q
          intro w hw;rw[gR,if_pos hm1]at hw;simp only[bN,List.not_mem_nil,or_false]at hw;rcases hw with rfl|rfl<;>assumption
        · exact hal j (by omega)⟩ (by show(bG s).length- (k+1)< (bG s).length-k;omega)
   SB
   (λ_ s=>ak [2,0] rfl s)
 refine PS ?_;refine nx J20 (CY (ai (aH (ae (ae (aH (aH (ae (ae (aH (ae ?_)))))))))));refine WK [0] (dI rfl ?_)
 have hb: ¬vE s=true:=λh=>by
   have h2:=List.all_eq_true.1 (List.all_eq_true.1 h _ hmm1) (((bG s).getD k 0+2)%5) (by rw[gR,if_pos hm1];simp);rw[h41]at h2;cases h2
 exact MQ (by rw[m8,if_neg (by rw[h19,decide_eq_false (by omega)];decide),if_neg hb]);refine PS ?_;refine nx J15 (CY (ai (aH (ae (ae (aH (aH (ae (ae (aH (ae ?_)))))))))));refine WK [0] (dI rfl ?_)
 have hb: ¬vE s=true:=λh=>by
   have h2:=List.all_eq_true.1 (List.all_eq_true.1 h _ hmm1) (((bG s).getD k 0+1)%5) (by rw[gR,if_pos hm1];simp);rw[h41]at h2;cases h2
 exact MQ (by rw[m8,if_neg (by rw[h19,decide_eq_false (by omega)];decide),if_neg hb]);refine nx J6 (ab λ_ J23=>CN (aY (aC (aC (bo (ac J4 (sr λ_ J24=>P2 ?_)))))));refine FA 9 c9 ba ?_;refine LZ 1 dU ba aj s.own ?_ (hc:=by exact λ_=>Du _);refine XZ uu (ints RowT.zero.flat) λb9=>?_
 refine SW 0 ba aj ?_;refine nx J24 (ab λ_ J25=>sr λ_ J26=>PS ?_);refine tp (dq rfl iL rfl hlud) ?_;refine PS ?_;refine nx J26 (au ?_)
 refine bu (α:=(Nat)×(RowT)) (λ⟨q,y⟩=>q≤(bG s).length∧y=qg s ((bG s).take q)) (λ⟨q,y⟩=>[(0,(.pointer (some ⟨r,0,none⟩))),(1,(.iface V.T V.ov)),(4,ud),(9,(.pointer (some ⟨b9,0,none⟩))),(49,ud),(50,(.int .i64 ((((bG s).length:Nat):Int)))),(51,(.int .i64 (((q:Nat):Int))))]) (λ⟨q,y⟩=>[ah b9 (ints y.flat) 39,own ud ((bG s).length) (ints (bG s)) 3 1,cF V r s]) (λ⟨q,y⟩=>(bG s).length-q) (0,s.own)
     ⟨aN _,rfl⟩ SB
     (λ_ s=>ak [0,0,0] rfl s) (λ⟨q,y⟩ hinv=>?_)
 obtain⟨hq,hy⟩:=hinv;refine sr λ_ J27=>PS ?_
 refine ao ?_ ?_<;>intro h52;refine nx J27 (ab λ_ J28=>CY (qx J28 (ab λ_ J29=>au (sr λ_ J30=>?_))));have hmm2:(bG s).getD q 0∈bG s:=by rw[List.getD_eq_getElem?_getD,List.getElem?_eq_getElem (by omega)];exact cR _
 have hm2:cH ((bG s).getD q 0)=true:=(xD hmm2).1;have hn2:0≤(bG s).getD q 0∧(bG s).getD q 0<5:=of_decide_eq_true hm2;refine g9 1 rfl rfl (by omega) (λge1 ce1 he1 _=>tp (be (r:=q) he1 rfl iL aR rfl rfl (by omega) (by omega) (by omega)) ?_);refine tp (ca (v:=(.int .i64 (((bG s).getD q 0)))) rfl Y3 rfl rfl (fD 1 rfl he1 rfl) (xp (by omega))) ?_;refine PS ?_;refine nx J30 (ab λ_ J31=>sr λ_ J32=>PS ?_);refine FA 29 dU eV ?_;refine IX (29+(((bG s).getD q 0)).toNat) jK aR ?_;refine LT 0 Y3 (.int .i64 ((y.heir[(((bG s).getD q 0)).toNat]'(by omega)))) ?_ (hc:=by exact rY y ((((bG s).getD q 0)).toNat) (by omega) (by omega) (kl y.heir (by omega)));refine PS ?_;refine ao ?_ ?_<;>intro h59;refine nx J32 (CY (aY (aC (bo (ac J29 (ad (AD ?_)))))));refine PS ?_;refine aq ?_
 exact aJ ((q+1,y):(Nat)×(RowT)) ⟨by omega,by rw[uS s (by omega),←hy,if_pos (by rw[fR,dif_pos hm2];exact h59)]⟩ (by show(bG s).length- (q+1)< (bG s).length-q;omega)
   SB
   (λ_ s=>ak [0,0,0] rfl s)
 refine nx J32 (CN (qx J31 (ab λ_ J33=>e4 (α:=(Nat)) (λ_=>True) (λb12=>[(0,(.pointer (some ⟨r,0,none⟩))),(1,(.iface V.T V.ov)),(4,ud),(9,(.pointer (some ⟨b9,0,none⟩))),(12,(.pointer (some ⟨b12,0,none⟩))),(13,(.int .i64 ((dT y ((bG s).getD q 0) (s.last[(((bG s).getD q 0)).toNat]'(by omega))).2))),(49,ud),(50,(.int .i64 ((((bG s).length:Nat):Int)))),(51,(.int .i64 (((q:Nat):Int))))]) (λb12=>[ah b12 (ints ((dT y ((bG s).getD q 0) (s.last[(((bG s).getD q 0)).toNat]'(by omega))).1).flat) 39,ah b9 (ints y.flat) 39,own ud ((bG s).length) (ints (bG s)) 3 1,cF V r s]) (λb12 _=>?_) (λtl33=>?_))));refine ac J33 (ab λ_ J34=>sr λ_ J35=>P2 ?_);refine ao ?_ ?_<;>intro h73
 · exact absurd (MV hm2 (by rw[fR,dif_pos hm2];exact h59)) h73
 refine nx J35 (CN (qx J34 (ad (LW 0 dU ba aj ?_))));refine SW 1 ba aj ?_;refine aq (ag (ac J29 (ad (AD ?_))));refine PS ?_;refine aq ?_
 exact aJ ((q+1,(dT y ((bG s).getD q 0) (s.last[(((bG s).getD q 0)).toNat]'(by omega))).1):(Nat)×(RowT)) ⟨by omega,by rw[uS s (by omega),←hy,if_neg (by rw[fR,dif_pos hm2];exact h59),nG,dif_pos hm2]⟩ (by show(bG s).length- (q+1)< (bG s).length-q;omega)
   SB
   (λ_ s=>ak [1,1,1] rfl s)
 refine DC mixed (BL 0) (cO 2 rfl rfl) ?_;refine LY 0 dU ba aj ?_;refine PD 1 ?_;refine PD 2 ?_;refine PD 3 ?_;refine PD 4 ?_;refine FD 5 1948 c9 tG ?_;refine IY 6 (1948+((((bG s).getD q 0)).toNat)*174) HS ba ?_;refine ta 7 rfl (fW (vs:=ints (s.last[(((bG s).getD q 0)).toNat]'(by omega)).flat) rfl dU rfl ba rfl (λ_ h=>h.2.2.1) (aj (s.last[(((bG s).getD q 0)).toNat]'(by omega))) (λa_=>(RepT.sub_last (s.rep a_) (((((bG s).getD q 0)).toNat)*174) (by omega) (by omega) (kF dA ((s.rep a_).last) (i:=(((bG s).getD q 0)).toNat) 0 (by omega) (by omega) (by decide) (whole (aj (((s.rep a_).last)[(((bG s).getD q 0)).toNat]'(by omega)))))))) ?_;refine cC [8,12] (by kernel_rfl) rfl (aE rfl ?_ ?_);refine CE L1 (pc y ((bG s).getD q 0) (s.last[(((bG s).getD q 0)).toNat]'(by omega))) ID ?_;refine EN (PD 9 ?_);refine PD 10 ?_;refine PD 11 ?_;refine AL 12 ?_;refine XZ uu (ints RowT.zero.flat) λb12=>?_
 refine EN (AL 13 ?_);refine SW 0 ba aj ?_;refine EN (PD 14 ?_);refine DN ?_
 exact aF
   SB
   (λ_ s=>s)
   (tl33 ((b12):(Nat)) trivial)
 refine aE rfl ?_ ?_;refine XZ uu (ints RowT.zero.flat) λb12=>?_
 refine EN (AL 8 ?_);refine CE L1 (pc y ((bG s).getD q 0) (s.last[(((bG s).getD q 0)).toNat]'(by omega))) ID ?_;refine EN (PD 9 ?_);refine PD 10 ?_;refine PD 11 ?_;refine AL 13 ?_;refine SW 0 ba aj ?_;refine EN (PD 14 ?_);refine DN ?_
 exact aF
   SB
   (λ_ s=>s)
   (tl33 ((b12):(Nat)) trivial)
 exact bz;refine nx J27 (ab λ_ J36=>CN (aY (aC (aC (bo (ac J25 (ad ?_)))))));have hoy:OkRow y:=by rw[hy];exact inferInstance
 refine P2 ?_;refine LW 0 dU ba aj ?_;refine CE MI (rP V r s y 0) (SM [2]) ?_;refine aq (WK [0] (bp rfl ?_));obtain rfl:k=(bG s).length:=by omega
 obtain rfl:q=(bG s).length:=by omega
 have hb:vE s=true:=List.all_eq_true.2 λi hi=>List.all_eq_true.2 λw hw=>by
   obtain⟨j,hj,rfl⟩:=fe hi;have h2:=hal j (by omega) w;rw[List.getD_eq_getElem?_getD,List.getElem?_eq_getElem hj]at h2;exact h2 hw
 rw[eI]at hy;subst hy;exact MQ (by rw[m8,if_neg (by rw[h19,decide_eq_false (by omega)];decide),if_pos hb])
theorem yx{δ:Type}(V:Env δ)(r:Nat)(s:MS δ)[OkR V.toDk s](hrs:s.replies.length≤1000000):
 DT 159 #[(.pointer (some ⟨r,0,none⟩)),(.iface V.T V.ov)] T0 [cF V r s] (dh (λ_ H=>H=[cF V r (lO V.toDk s)])):=by
 refine BD 43 Tryz.func159 rfl rfl rfl λw0 F hF=>sr λ_ J1=>P2 ?_
 refine FA 1938 c9 k0 ?_;refine SK 0 k0 (λ_=>cN _) ?_ (hc:=by exact λa_=>(PX _ rfl _));refine nx J1 (ab λ_ J2=>e4 (α:=Unit) (λ_u=>True) (λ_u=>[(0,(.pointer (some ⟨r,0,none⟩))),(1,(.iface V.T V.ov))]) (λ_u=>[cF V r (gL s)]) (λ_u hinv=>?_) (λtl2=>?_));have _:=hinv;refine ac J2 (ab λ_ J3=>e4 (α:=Unit) (λ_u=>True) (λ_u=>[(0,(.pointer (some ⟨r,0,none⟩))),(1,(.iface V.T V.ov))]) (λ_u=>[cF V r (mf (gL s))]) (λ_u hinv=>?_) (λtl3=>?_));have _:=hinv;refine ac J3 (sr λ_ J4=>P4 ?_);refine FA 9 c9 ba ?_;refine LZ 0 dU ba aj ((mf (gL s)).own) ?_ (hc:=by exact λ_=>Du _);refine CZ ME (mN V r (mf (gL s)) ((mf (gL s)).own)) ID λvR=>?_
 refine nx J4 (ad (P2 ?_));refine CZ KG (o5 V r (mD V.toDk (mf (gL s)) ((mf (gL s)).own))) ID λvR=>?_
 exact aq (WK [0] (bp rfl rfl));refine sr λ_ J5=>P2 ?_
 refine FA 1940 c9 aR ?_;refine LG 0 Y3 (.int .i64 ((gL s).waits)) ?_ (hc:=by exact λa_=>(RepT.at_waits _ rfl));refine PS ?_;refine ao ?_ ?_<;>intro h23;refine nx J5 (CY (sr λ_ J6=>P3 ?_));refine FA 1940 c9 aR ?_;refine LG 0 Y3 (.int .i64 ((gL s).waits)) ?_ (hc:=by exact λa_=>(RepT.at_waits _ rfl));refine CZ tX (eX V r (gL s) ((gL s).waits) 0 0 hrs) ID λvR=>?_
 refine nx J6 (ad (P2 ?_));refine FA 1940 c9 aR ?_;refine SK 0 aR (λ_=>cN _) ?_ (hc:=by exact λa_=>(RepT.set_waits _ rfl _));refine aq ?_
 exact aF
  SB
  (λ_ q=>by
   rw[yT h23]
   exact ak [0] rfl q)
  (tl3 (():Unit) trivial)
 refine nx J5 (CN (aT ?_))
 exact aF
  SB
  (λ_ q=>by
   rw[yU h23]
   exact ak [0] rfl q)
  (tl3 (():Unit) trivial)
 refine D0 mixed ?_;refine PD 0 ?_;refine PD 1 ?_;refine FD 2 1068 c9 DX ?_;refine PD 3 ?_;refine PD 4 ?_;refine FD 5 0 c9 aR ?_;refine PD 7 ?_;refine PD 8 ?_;refine FD 9 9 c9 ba ?_;refine cC [6,10] (by kernel_rfl) rfl (aE rfl ?_ ?_);refine LG 0 Y3 (.int .i64 (s.id)) ?_ (hc:=by exact λa_=>(cD _ rfl));refine EN (AL 10 ?_);refine LZ 0 dU ba aj s.own ?_ (hc:=by exact λ_=>Du _);refine EN (AL 11 ?_);refine CE KI (Leg.Does.hid (λa_=>kV r 1068 87 _ (gH ((MS.setBusy s false).rep a_)) (MS.setBusy s false).book s.id s.own (JT inferInstance))) ID ?_;refine EN (DN ?_)
 exact aF
  SB
  (λ_ s=>ak [0] rfl s)
  (tl2 (():Unit) trivial)
 refine aE rfl ?_ ?_;refine LZ 0 dU ba aj s.own ?_ (hc:=by exact λ_=>Du _);refine EN (AL 6 ?_);refine LG 0 Y3 (.int .i64 (s.id)) ?_ (hc:=by exact λa_=>(cD _ rfl));refine EN (AL 11 ?_);refine CE KI (Leg.Does.hid (λa_=>kV r 1068 87 _ (gH ((MS.setBusy s false).rep a_)) (MS.setBusy s false).book s.id s.own (JT inferInstance))) ID ?_;refine EN (DN ?_)
 exact aF
  SB
  (λ_ s=>ak [0] rfl s)
  (tl2 (():Unit) trivial)
 exact bz
theorem wj{δ:Type}(V:Env δ)(r:Nat)(s:MS δ)(from':Int)(m:MsgT)[OkR V.toDk s](hrs:s.replies.length≤1000000):
 DT 122 #[(.pointer (some ⟨r,0,none⟩)),(.iface V.T V.ov),(.int .i64 (from')),(.agg (ints m.flat).toArray)] T0 [cF V r s] (dh (λ_ H=>H=[cF V r (dP V.toDk s from' m)])):=by
 refine BD 64 Tryz.func122 rfl rfl rfl λw0 F hF=>?_
 have hid:cH s.id=true:=OkR.id;have hid2:0≤s.id∧s.id<5:=of_decide_eq_true hid;refine sr λ_ J1=>XY (ints m.flat) λb7=>?_
 refine nx J1 (sr λ_ J2=>P2 ?_);refine FA 0 c9 aR ?_;refine LG 1 Y3 (.int .i64 (s.id)) ?_ (hc:=by exact λa_=>(cD _ rfl));refine CR Cj (qB s.id hid) ID λvR HR hR=>?_
 obtain⟨_,rfl,rfl⟩:=hR;revert vR;intro uw;refine im 0 rfl rfl (λhluw _=>g9 0 rfl rfl (by omega) (λgw capw hvw hcapw=>PS ?_));refine nx J2 (ab λ_ J3=>ab λ_ J4=>DC mixed (cO 2 rfl rfl) (BL 1) ?_);refine PD 0 ?_;refine PD 1 ?_;refine FD 2 1938 c9 k0 ?_;refine ta 3 rfl (de (v:=(.bool (s.busy))) rfl Y4 rfl rfl (λ_ h=>h.2.1) (λa_=>(yH _ rfl))) ?_;refine oq ?_ ?_<;>intro h19;refine PD 4 ?_;refine PD 5 ?_;refine FD 6 176 bd aR ?_;refine LR 7 Y3 (MsgT.at_version m rfl) ?_;refine PD 8 ?_;refine PD 9 ?_;refine FD 10 9 c9 ba ?_;refine FD 11 9 dU aR ?_;refine tb 12 rfl (de (v:=(.int .i64 (s.own.version))) rfl Y3 rfl rfl (λ_ h=>h.2.1) (λa_=>(RepT.pt_own (s.rep a_) 0 rfl (by decide) (cx _ rfl)))) ?_;refine PD 13 ?_;refine iR ?_ ?_<;>intro h29;refine PD 14 ?_;refine PD 15 ?_;refine NT 16 ?_;refine NT 17 ?_;refine NT 18 ?_;refine NT 19 ?_;refine PD 20 ?_;refine DN (ac J4 (CY (ai (ae (WK [2] (dI rfl ?_))))));have ew:gR s.id=[(s.id+1)%5,(s.id+2)%5]:=by rw[gR,if_pos hid]
 have e:li s from' m.version=false:=by rw[li,ew,decide_eq_false h29,gK,lZ]
 exact congrArg (λq=>[cF V r q]) (show s=dP V.toDk s from' m by rw[dP,e];rfl);refine PD 14 ?_;refine PD 15 ?_;refine PD 16 ?_;refine PD 17 ?_;refine AL 18 ?_;refine CF LO (q9 uw [(s.id+1)%5,(s.id+2)%5] from' (by decide:2≤1000000)) ID (nw (l:=[(s.id+1)%5,(s.id+2)%5]) 0 rfl rfl) ?_;refine ao ?_ ?_<;>intro h34;have hmem:=h34;simp only[bN,List.not_mem_nil,or_false]at hmem;have hfr:0≤from'∧from'<5:=by omega
 refine EN (PD 19 ?_);refine PD 20 ?_;refine DN (ac J4 (CN (qx J3 (ab λ_ J5=>D0 mixed ?_))));refine PD 0 ?_;refine PD 1 ?_;refine FD 2 1939 c9 aR ?_;refine PD 4 ?_;refine ta 5 rfl (yJ (r:=(c7 from')) rfl rfl rfl (by omega) rfl) ?_;refine AL 3 ?_;refine LG 2 Y3 (.int .i64 (s.kept)) ?_ (hc:=by exact λa_=>(rZ _ rfl));refine EN (ta 6 rfl (JS (r:=(iF .i64 s.kept (c7 from'))) rfl rfl rfl rfl) ?_);refine PD 7 ?_;refine FD 8 1939 c9 aR ?_;refine AL 9 ?_;refine SK 2 aR (λ_=>cN _) ?_ (hc:=by exact λa_=>(PW _ rfl _));refine EN (DN (ac J5 (ab λ_ J6=>sr λ_ J7=>PS ?_)));refine tp (dq rfl iL rfl hluw) ?_;refine PS ?_;refine nx J7 (au (sh 2 (sr λ_ J8=>PS ?_)));refine nx J8 (ab λ_ J9=>CY (qx J9 (ab λ_ J10=>au (sr λ_ J11=>tp (be (r:=0) hvw rfl iL aR rfl rfl (by omega) (by omega) rfl) ?_))));refine tp (ca (v:=(.int .i64 (((s.id+1)%5)))) rfl Y3 rfl rfl (fD 0 rfl hvw rfl) rfl) ?_;refine PS ?_;refine nx J11 (sr λ_ J12=>P2 ?_);refine FA 1939 c9 aR ?_;refine LG 2 Y3 (.int .i64 ((iF .i64 s.kept (c7 from')))) ?_ (hc:=by exact λa_=>(rZ _ rfl));refine PS ?_;refine tp (jX (r:=((iF .i64 s.kept (c7 from')).fdiv (2^min (((s.id+1)%5)).toNat IntKind.i64.bits))) rfl rfl rfl (by omega) rfl) ?_;refine tp (pD (r:=(((iF .i64 s.kept (c7 from')).fdiv (2^min (((s.id+1)%5)).toNat IntKind.i64.bits))%2)) rfl rfl rfl (mask (k:=1) (by decide) _)) ?_;refine PS ?_;refine ao ?_ ?_<;>intro h59
 refine nx J12 (CY (ai (aH (ae (ae (aH (ae (WK [2] (dI rfl ?_)))))))));have ew:gR s.id=[(s.id+1)%5,(s.id+2)%5]:=by rw[gR,if_pos hid]
 have e:li s from' m.version=true:=by rw[li,h19,ew,decide_eq_true (show m.version=s.own.version by omega),decide_eq_true h34];rfl
 have e2:xu (iK s from')=false:=by rw[xu,show gR (iK s from').id=[(s.id+1)%5,(s.id+2)%5]from ew];simp only[List.all_cons,List.all_nil,Ba,iK, *,decide_true,decide_false,P5,OW,P6,vD,gK,lZ]
 exact congrArg (λq=>[cF V r q]) (show(MS.setKept s (iF .i64 s.kept (c7 from')))=dP V.toDk s from' m by rw[dP,e,e2];rfl);refine nx J12 (CN (aT (ag (ac J10 (ad (tp (cq (r:=1) rfl rfl rfl (by decide)) ?_))))));refine PS ?_;refine aq (ek (sr λ_ J13=>PS ?_));refine nx J13 (ab λ_ J14=>CY (qx J14 (ab λ_ J15=>au (sr λ_ J16=>tp (be (r:=1) hvw rfl iL aR rfl rfl (by omega) (by omega) rfl) ?_))));refine tp (ca (v:=(.int .i64 (((s.id+2)%5)))) rfl Y3 rfl rfl (fD 0 rfl hvw rfl) rfl) ?_;refine PS ?_;refine nx J16 (sr λ_ J17=>P2 ?_);refine FA 1939 c9 aR ?_;refine LG 2 Y3 (.int .i64 ((iF .i64 s.kept (c7 from')))) ?_ (hc:=by exact λa_=>(rZ _ rfl));refine PS ?_;refine tp (jX (r:=((iF .i64 s.kept (c7 from')).fdiv (2^min (((s.id+2)%5)).toNat IntKind.i64.bits))) rfl rfl rfl (by omega) rfl) ?_;refine tp (pD (r:=(((iF .i64 s.kept (c7 from')).fdiv (2^min (((s.id+2)%5)).toNat IntKind.i64.bits))%2)) rfl rfl rfl (mask (k:=1) (by decide) _)) ?_;refine PS ?_;refine ao ?_ ?_<;>intro h59;refine nx J17 (CY (ai (aH (ae (ae (aH (ae (WK [2] (dI rfl ?_)))))))));have ew:gR s.id=[(s.id+1)%5,(s.id+2)%5]:=by rw[gR,if_pos hid]
 have e:li s from' m.version=true:=by rw[li,h19,ew,decide_eq_true (show m.version=s.own.version by omega),decide_eq_true h34];rfl
 have e2:xu (iK s from')=false:=by rw[xu,show gR (iK s from').id=[(s.id+1)%5,(s.id+2)%5]from ew];simp only[List.all_cons,List.all_nil,Ba,iK, *,decide_true,decide_false,P5,OW,P6,vD,gK,lZ]
 exact congrArg (λq=>[cF V r q]) (show(MS.setKept s (iF .i64 s.kept (c7 from')))=dP V.toDk s from' m by rw[dP,e,e2];rfl);refine nx J17 (CN (aT (ag (ac J15 (ad (tp (cq (r:=2) rfl rfl rfl (by decide)) ?_))))));refine PS ?_;refine aq (ek (sr λ_ J18=>PS ?_));refine nx J18 (ab λ_ J19=>CN (aY (aC (aC (bo (ac J6 (ad (P2 ?_))))))));refine CZ N7 (yx V r (iK s from') hrs) (SM [2]) λvR=>?_
 refine aq (WK [0] (bp rfl ?_));have ew:gR s.id=[(s.id+1)%5,(s.id+2)%5]:=by rw[gR,if_pos hid]
 have e:li s from' m.version=true:=by rw[li,h19,ew,decide_eq_true (show m.version=s.own.version by omega),decide_eq_true h34];rfl
 have e2:xu (iK s from')=true:=by rw[xu,show gR (iK s from').id=[(s.id+1)%5,(s.id+2)%5]from ew];simp only[List.all_cons,List.all_nil,Ba,iK, *,decide_true,decide_false,P5,OW,P6,vD,gK,lZ]
 exact congrArg (λq=>[cF V r q]) (show(lO V.toDk (iK s from'))=dP V.toDk s from' m by rw[dP,e,e2];rfl);refine EN (PD 19 ?_);refine PD 20 ?_;refine DN (ac J4 (CY (ai (ae (WK [2] (dI rfl ?_))))));have ew:gR s.id=[(s.id+1)%5,(s.id+2)%5]:=by rw[gR,if_pos hid]
 have e:li s from' m.version=false:=by rw[li,ew,decide_eq_false h34];simp
 exact congrArg (λq=>[cF V r q]) (show s=dP V.toDk s from' m by rw[dP,e];rfl);refine PD 4 ?_;refine PD 5 ?_;refine NT 6 ?_;refine NT 7 ?_;refine NT 8 ?_;refine NT 9 ?_;refine NT 10 ?_;refine NT 11 ?_;refine NT 12 ?_;refine NT 13 ?_;refine PD 14 ?_;refine PD 15 ?_;refine NT 16 ?_;refine NT 17 ?_;refine NT 18 ?_;refine NT 19 ?_;refine PD 20 ?_;refine DN (ac J4 (CY (ai (ae (WK [2] (dI rfl ?_))))));have ew:gR s.id=[(s.id+1)%5,(s.id+2)%5]:=by rw[gR,if_pos hid]
 have e:li s from' m.version=false:=by rw[li,ew,h19];simp
 exact congrArg (λq=>[cF V r q]) (show s=dP V.toDk s from' m by rw[dP,e];rfl)
theorem yd{δ:Type}(V:Env δ)(r:Nat)(s:MS δ)(from':Int)(m:MsgT)[OkR V.toDk s][OkMg m](hto:from'≠s.id):
 DT 121 #[(.pointer (some ⟨r,0,none⟩)),(.iface V.T V.ov),(.int .i64 (from')),(.agg (ints m.flat).toArray)] T0 [cF V r s] (dh (λ_ H=>H=[cF V r (iX V.toDk s from' m)])):=by
 refine BD 56 Tryz.func121 rfl rfl rfl λw0 F hF=>sr λ_ J1=>XY (ints m.flat) λb7=>?_
 refine nx J1 (ab λ_ J2=>ab λ_ J3=>D1 0 mixed ?_);refine FD 0 1 bd aR ?_;refine LR 1 Y3 (cm m rfl) ?_;refine PD 2 ?_;refine PD 3 ?_;refine iR ?_ ?_<;>intro h11;refine PD 4 ?_;refine NT 5 ?_;refine NT 6 ?_;refine NT 7 ?_;refine NT 8 ?_;refine NT 9 ?_;refine NT 10 ?_;refine PD 11 ?_;refine DN (ac J3 (CY (ai (ae (WK [1] (dI rfl ?_))))));exact congrArg (λq=>[cF V r q]) (show _=iX V.toDk s from' m from(if_pos (.inl (by omega))).symm);refine PD 4 ?_;refine PD 5 ?_;refine PD 6 ?_;refine FD 7 183 c9 tF ?_;refine FD 8 1 bd aR ?_;refine LR 9 Y3 (cm m rfl) ?_;refine AL 10 ?_;refine CE MM (Leg.Does.hid (λa_=>m3 r 183 87 _ (dW (s.rep a_)) s.mirror m.whose)) (SM [1]) ?_;refine bc ?_ ?_<;>intro h18;refine EN (PD 11 ?_);refine DN (ac J3 (CY (ai (ae (WK [0] (dI rfl ?_))))));exact congrArg (λq=>[cF V r q]) (show _=iX V.toDk s from' m from(if_pos (.inr h18)).symm);refine EN (PD 11 ?_);refine DN (ac J3 (CN (qx J2 (ab λ_ J4=>ab λ_ J5=>D1 1 mixed ?_))));refine PD 0 ?_;refine PD 1 ?_;refine FD 2 183 c9 tF ?_;refine FD 3 1 bd aR ?_;refine LR 4 Y3 (cm m rfl) ?_;refine FD 5 2 bd ba ?_;refine ta 6 rfl (aM (vs:=ints m.row.flat) rfl dU rfl ba rfl (λ_ h=>h.2.1) (aj m.row) (ma m 0 rfl (by decide) (whole (aj m.row)))) ?_;refine AL 7 ?_;refine CE LQ (Leg.Does.hid (λa_=>qY r 183 87 _ (dW (s.rep a_)) s.mirror m.whose m.row (JT inferInstance))) ID ?_;refine bc ?_ ?_<;>intro h27;refine EN (DN (ac J5 (CY (ab λ_ J6=>sr λ_ J7=>PS ?_))))
 refine FA 1 bd aR ?_;refine LU 1 Y3 (cm m rfl) ?_;refine FA 2 bd ba ?_;refine LV 1 dU ba aj MsgT.sp_row (y:=m.row) ?_;refine tp (ll RecT.zero (RecT.mk 1 m.whose m.row 0 BallotT.zero ChangeT.zero ViewT.zero) [(0,[Value.int .i64 1]),(1,[Value.int .i64 m.whose]),(2,ints m.row.flat)] eb e5 (g:=RecT.sg)) ?_;refine CE w5 (ld V r s (kd m.whose m.row)) ID ?_;refine PS ?_;refine ao ?_ ?_<;>intro h35;refine nx J7 (CY (ai (ae (ae (WK [0] (dI rfl ?_))))));have hn: ¬(m.whose≠from'∨fc s.mirror m.whose=true):=λh=>h.elim (λh=>by omega) (λh=>by rw[h18]at h;cases h)
 exact MQ (by rw[iX,if_neg hn,if_pos h27,if_pos h35]<;>rfl);refine nx J7 (CN (qx J6 (D1 1 mixed ?_)));refine PD 0 ?_;refine PD 1 ?_;refine FD 2 183 c9 tF ?_;refine FD 3 1 bd aR ?_;refine LR 4 Y3 (cm m rfl) ?_;refine FD 5 2 bd ba ?_;refine ta 6 rfl (aM (vs:=ints m.row.flat) rfl dU rfl ba rfl (λ_ h=>h.2.1) (aj m.row) (ma m 0 rfl (by decide) (whole (aj m.row)))) ?_;refine AL 7 ?_;refine CE L7 (Leg.Does.hid (λa_=>sU r 183 87 _ (dW ((eh V.toDk s (kd m.whose m.row)).rep a_)) (eh V.toDk s (kd m.whose m.row)).mirror m.whose m.row (JT inferInstance))) ID ?_;refine EN (DN (ac J4 (D1 1 mixed ?_)));refine PD 0 ?_;refine PD 1 ?_;refine PD 2 ?_;refine PD 3 ?_;refine PD 4 ?_;refine FD 5 183 c9 tF ?_;refine FD 6 1 bd aR ?_;refine LR 7 Y3 (cm m rfl) ?_;refine AL 8 ?_;refine CE IU (Leg.Does.hid (λa_=>lK r 183 87 _ (dW ((iJ (eh V.toDk s (kd m.whose m.row)) m.whose m.row).rep a_)) (iJ (eh V.toDk s (kd m.whose m.row)) m.whose m.row).mirror m.whose)) ID ?_;refine EN (ta 9 rfl (Qc (cs:=ints (dp (iJ (eh V.toDk s (kd m.whose m.row)) m.whose m.row).mirror m.whose).flat) (v:=Value.int .i64 ((dp (iJ (eh V.toDk s (kd m.whose m.row)) m.whose m.row).mirror m.whose).version)) rfl dU rfl Y3 rfl rfl (cx _ rfl)) ?_)
 refine ta 10 rfl (ll MsgT.zero (MsgT.mk 1 0 RowT.zero ((dp (iJ (eh V.toDk s (kd m.whose m.row)) m.whose m.row).mirror m.whose).version) 0 BallotT.zero BallotT.zero ChangeT.zero ViewT.zero) [(0,[Value.int .i64 1]),(3,[Value.int .i64 ((dp (iJ (eh V.toDk s (kd m.whose m.row)) m.whose m.row).mirror m.whose).version)])] bd bq (g:=MsgT.sg)) ?_;refine AL 11 ?_;refine CZ je (js V r (iJ (eh V.toDk s (kd m.whose m.row)) m.whose m.row) from' (sY (dp (iJ (eh V.toDk s (kd m.whose m.row)) m.whose m.row).mirror m.whose).version) hto) ID λvR=>?_
 refine EN (DN (WK [0] (bp rfl ?_)));have hn: ¬(m.whose≠from'∨fc s.mirror m.whose=true):=λh=>h.elim (λh=>by omega) (λh=>by rw[h18]at h;cases h)
 exact MQ (by rw[iX,if_neg hn,if_pos h27,if_neg h35]<;>rfl);refine EN (DN (ac J5 (CN (qx J4 (D1 1 mixed ?_)))));refine PD 0 ?_;refine PD 1 ?_;refine PD 2 ?_;refine PD 3 ?_;refine PD 4 ?_;refine FD 5 183 c9 tF ?_;refine FD 6 1 bd aR ?_;refine LR 7 Y3 (cm m rfl) ?_;refine AL 8 ?_;refine CE IU (Leg.Does.hid (λa_=>lK r 183 87 _ (dW (s.rep a_)) s.mirror m.whose)) ID ?_;refine EN (ta 9 rfl (Qc (cs:=ints (dp s.mirror m.whose).flat) (v:=Value.int .i64 ((dp s.mirror m.whose).version)) rfl dU rfl Y3 rfl rfl (cx _ rfl)) ?_);refine ta 10 rfl (ll MsgT.zero (MsgT.mk 1 0 RowT.zero ((dp s.mirror m.whose).version) 0 BallotT.zero BallotT.zero ChangeT.zero ViewT.zero) [(0,[Value.int .i64 1]),(3,[Value.int .i64 ((dp s.mirror m.whose).version)])] bd bq (g:=MsgT.sg)) ?_;refine AL 11 ?_;refine CZ je (js V r s from' (sY (dp s.mirror m.whose).version) hto) ID λvR=>?_
 refine EN (DN (WK [0] (bp rfl ?_)));have hn: ¬(m.whose≠from'∨fc s.mirror m.whose=true):=λh=>h.elim (λh=>by omega) (λh=>by rw[h18]at h;cases h)
 exact MQ (by rw[iX,if_neg hn,if_neg (by rw[h27];decide)]<;>rfl)
theorem nT{δ:Type}(V:Env δ)(r:Nat)(s:MS δ)(from':Int)(m:MsgT)[OkR V.toDk s][OkMg m]:
 DT 125 #[(.pointer (some ⟨r,0,none⟩)),(.iface V.T V.ov),(.int .i64 (from')),(.agg (ints m.flat).toArray)] T0 [cF V r s] (dh (λ_ H=>H=[cF V r (fY V.toDk s from' m)])):=by
 refine BD 59 Tryz.func125 rfl rfl rfl λw0 F hF=>sr λ_ J1=>XY (ints m.flat) λb7=>?_
 refine nx J1 (ab λ_ J2=>e4 (α:=Unit) (λ_u=>True) (λ_u=>[(0,(.pointer (some ⟨r,0,none⟩))),(1,(.iface V.T V.ov))]) (λ_u=>[cF V r (if from'∈gR m.whose then we s from' m.whose m.row else s)]) (λ_u hinv=>?_) (λtl2=>?_));have _:=hinv;refine ac J2 (ad (P2 ?_));refine CZ KG (o5 V r (if from'∈gR m.whose then we s from' m.whose m.row else s)) ID λvR=>?_
 exact aq (WK [0] (bp rfl rfl));refine sr λ_ J3=>FA 1 bd aR ?_
 refine LU 0 Y3 (cm m rfl) ?_;refine CR Cj (pM m.whose) ID λvR HR hR=>?_
 obtain⟨_,rfl,rfl⟩:=hR;revert vR;intro uw;refine PS ?_;refine CF LO (q9 uw (gR m.whose) from' (H8 m.whose)) ID (nw (l:=(gR m.whose)) 0 rfl rfl) ?_;refine ao ?_ ?_<;>intro h12
 have hm:cH m.whose=true:=by
  unfold gR at h12;split at h12
  · assumption
  · cases h12
 have hm2:0≤m.whose∧m.whose<5:=of_decide_eq_true hm;have hta:rl s m.whose=s.told[m.whose.toNat]'(by omega):=by rw[rl,dif_pos hm]
 have hla:nG s m.whose=s.last[m.whose.toNat]'(by omega):=by rw[nG,dif_pos hm]
 have hf:0≤from'∧from'<5:=by
  rw[gR,if_pos hm]at h12;simp only[bN,List.not_mem_nil,or_false]at h12;omega
 refine nx J3 (CY (ab λ_ J4=>e4 (α:=Unit) (λ_u=>True) (λ_u=>[(0,(.pointer (some ⟨r,0,none⟩))),(1,(.iface V.T V.ov)),(2,(.int .i64 (from'))),(7,(.pointer (some ⟨b7,0,none⟩)))]) (λ_u=>[cF V r (lM s m.whose m.row),ah b7 (ints m.flat) 163]) (λ_u hinv=>?_) (λtl4=>?_)));have _:=hinv;refine ac J4 (D1 1 mixed ?_);refine PD 0 ?_;refine FD 1 1 bd aR ?_;refine LR 2 Y3 (cm m rfl) ?_;refine PD 3 ?_;refine FD 4 1943 c9 eV ?_;refine IY 5 (1943+(m.whose).toNat) jK aR ?_;refine PD 7 ?_;refine ta 8 rfl (yJ (r:=(c7 from')) rfl rfl rfl (by omega) rfl) ?_;refine PD 10 ?_;refine FD 11 1943 c9 eV ?_;refine AL 6 ?_;refine LG 0 Y3 (.int .i64 ((((lM s m.whose m.row).told)[(m.whose).toNat]'(by omega)))) ?_ (hc:=by exact λa_=>(Qj ((lM s m.whose m.row).rep a_) ((m.whose).toNat) (by omega) (by omega) (kl (((lM s m.whose m.row).rep a_).told) (by omega))));refine EN (ta 9 rfl (JS (r:=(iF .i64 (s.told[m.whose.toNat]'(by omega)) (c7 from'))) rfl rfl rfl rfl) ?_);refine IY 12 (1943+(m.whose).toNat) jK aR ?_;refine AL 13 ?_;refine SK 0 aR (λ_=>cN _) ?_ (hc:=by exact λa_=>(RepT.st_told ((lM s m.whose m.row).rep a_) ((m.whose).toNat) (by omega) (by omega) (yW (((lM s m.whose m.row).rep a_).told) (by omega) _)));refine EN (DN ?_)
 exact aF
  SB
  (λ_ q=>by
   rw[if_pos h12,show we s from' m.whose m.row= {lM s m.whose m.row with told:=s.told.set m.whose.toNat (iF .i64 (s.told[m.whose.toNat]'(by omega)) (c7 from')) (by omega)}by rw[we,BU,dif_pos hm,hta]]
   exact ak [0] rfl q)
  (tl2 (():Unit) trivial)
 refine ab λ_ J5=>DC mixed (BL 1) (cO 2 rfl rfl) ?_
 refine PD 0 ?_;refine FD 1 1 bd aR ?_;refine LR 2 Y3 (cm m rfl) ?_;refine PD 3 ?_;refine FD 4 1943 c9 eV ?_;refine IY 5 (1943+(m.whose).toNat) jK aR ?_;refine ta 6 rfl (de (v:=(.int .i64 ((s.told[(m.whose).toNat]'(by omega))))) rfl Y3 rfl rfl (λ_ h=>h.2.2.1) (λa_=>(Qj (s.rep a_) ((m.whose).toNat) (by omega) (by omega) (kl ((s.rep a_).told) (by omega))))) ?_;refine PD 7 ?_;refine iR ?_ ?_<;>intro h20;refine PD 8 ?_;refine NT 9 ?_;refine NT 10 ?_;refine NT 11 ?_;refine NT 12 ?_;refine NT 13 ?_;refine NT 14 ?_;refine NT 15 ?_;refine NT 16 ?_;refine NT 17 ?_;refine NT 18 ?_;refine NT 19 ?_;refine NT 20 ?_;refine PD 21 ?_;refine DN (ac J5 (CY (D1 1 mixed ?_)));refine PD 0 ?_;refine FD 1 1 bd aR ?_;refine LR 2 Y3 (cm m rfl) ?_;refine FD 3 2 bd ba ?_;refine ta 4 rfl (aM (vs:=ints m.row.flat) rfl dU rfl ba rfl (λ_ h=>h.2.1) (aj m.row) (ma m 0 rfl (by decide) (whole (aj m.row)))) ?_;refine PD 5 ?_;refine FD 6 1948 c9 tG ?_;refine IY 7 (1948+((m.whose).toNat)*174) HS ba ?_;refine AL 8 ?_;refine gP (vs:=ints m.row.flat) (i:=2) (aa rfl) rfl rfl rfl rfl rfl (by rw[(aj m.row)];exact ba) (bj _) rfl rfl (λ_=>LC (cN _) (aj _)) (λa_=>(RepT.wr_last_ (s.rep a_) (((m.whose).toNat)*174) (by omega) (by have h1:=(aj m.row);omega) (ux dA ((s.rep a_).last) (i:=(m.whose).toNat) 0 (by omega) (by omega) (by have h1:=(aj m.row);omega) (cr ((aj (((s.rep a_).last)[(m.whose).toNat]'(by omega))).trans (aj m.row).symm))))) (EN (DN ?_))
 exact aF
  SB
  (λ_ q=>by
   rw[show lM s m.whose m.row= {s with last:=s.last.set m.whose.toNat m.row (by omega)}by rw[lM,if_pos (.inl (hta.trans h20)),BU,dif_pos hm]]
   exact ak [2,1] rfl q)
  (tl4 (():Unit) trivial)
 refine PD 8 ?_;refine FD 9 2 bd ba ?_;refine FD 10 2 dU aR ?_;refine LX 11 Y3 (.int .i64 (m.row.version)) ?_ (hc:=by exact MsgT.pt_row m 0 rfl (by decide) (cx m.row rfl));refine PD 12 ?_;refine FD 13 1 bd aR ?_;refine LR 14 Y3 (cm m rfl) ?_;refine PD 15 ?_;refine FD 16 1948 c9 tG ?_;refine IY 17 (1948+((m.whose).toNat)*174) HS ba ?_;refine tb 18 rfl (aZ (r:=1948+((m.whose).toNat)*174) rfl dU rfl aR rfl rfl) ?_;refine tb 19 rfl (de (v:=(.int .i64 ((s.last[(m.whose).toNat]'(by omega)).version))) rfl Y3 rfl rfl (λ_ h=>h.2.2.1) (λa_=>(RepT.pt_last (s.rep a_) (((m.whose).toNat)*174) (by omega) (by omega) (nQ dA ((s.rep a_).last) (i:=(m.whose).toNat) 0 (by omega) (by omega) (by decide) (cx _ rfl))))) ?_;refine PD 20 ?_;refine iR ?_ ?_<;>intro h33;refine PD 21 ?_;refine DN (ac J5 (CY (D1 1 mixed ?_)));refine PD 0 ?_;refine FD 1 1 bd aR ?_;refine LR 2 Y3 (cm m rfl) ?_;refine FD 3 2 bd ba ?_;refine ta 4 rfl (aM (vs:=ints m.row.flat) rfl dU rfl ba rfl (λ_ h=>h.2.1) (aj m.row) (ma m 0 rfl (by decide) (whole (aj m.row)))) ?_;refine PD 5 ?_;refine FD 6 1948 c9 tG ?_;refine IY 7 (1948+((m.whose).toNat)*174) HS ba ?_;refine AL 8 ?_
 refine gP (vs:=ints m.row.flat) (i:=2) (aa rfl) rfl rfl rfl rfl rfl (by rw[(aj m.row)];exact ba) (bj _) rfl rfl (λ_=>LC (cN _) (aj _)) (λa_=>(RepT.wr_last_ (s.rep a_) (((m.whose).toNat)*174) (by omega) (by have h1:=(aj m.row);omega) (ux dA ((s.rep a_).last) (i:=(m.whose).toNat) 0 (by omega) (by omega) (by have h1:=(aj m.row);omega) (cr ((aj (((s.rep a_).last)[(m.whose).toNat]'(by omega))).trans (aj m.row).symm))))) (EN (DN ?_))
 exact aF
  SB
  (λ_ q=>by
   rw[show lM s m.whose m.row= {s with last:=s.last.set m.whose.toNat m.row (by omega)}by rw[lM,if_pos (.inr (by rw[hla];omega)),BU,dif_pos hm]]
   exact ak [2,1] rfl q)
  (tl4 (():Unit) trivial)
 refine PD 21 ?_;refine DN (ac J5 (CN (aT ?_)))
 exact aF
  SB
  (λ_ q=>by
   rw[show lM s m.whose m.row= {s with last:=s.last}by rw[lM,if_neg (by rw[hta,hla];omega)]]
   exact ak [2,1] rfl q)
  (tl4 (():Unit) trivial)
 refine nx J3 (CN (aT ?_))
 exact aF
  SB
  (λ_ q=>by
   rw[if_neg h12]
   exact ak [2] rfl q)
  (tl2 (():Unit) trivial)
abbrev TK{δ:Type}(V:Env δ)(r f:Nat)(s:MS δ)(from':Int)(m:MsgT)(s':MS δ):Prop:=Leg.Does Tryz.prog f #[.pointer (some ⟨r,0,none⟩), .iface V.T V.ov, .int .i64 from', .agg (ints m.flat).toArray] (λ_=>True) [cF V r s] (dh (λ_ H=>H=[cF V r s']))
theorem oI{δ:Type}(V:Env δ)(r:Nat)(s s':MS δ)(from':Int)(m:MsgT)[OkMg m](h0:m.kind=0→TK V r 121 s from' m s')(h1:m.kind=1→TK V r 122 s from' m s')(h2:m.kind=2→F6 s m.whose m.row=s')(h7:m.kind=7→DT 123 #[.pointer (some ⟨r,0,none⟩), .iface V.T V.ov, .agg (ints m.view.flat).toArray] T0 [cF V r s] (dh (λv H=>(∃b,v= .bool b)∧H=[cF V r s'])))(h8:m.kind=8→TK V r 124 s from' m s')(h9:m.kind=9→TK V r 125 s from' m s')(hv:m.kind=3∨m.kind=4∨m.kind=5∨m.kind=6→TK V r 126 s from' m s')(hn:m.kind≠0∧m.kind≠1∧m.kind≠2∧m.kind≠7∧m.kind≠8∧m.kind≠9∧m.kind≠3∧m.kind≠4∧m.kind≠5∧m.kind≠6→s=s'):
 DT 82 #[(.pointer (some ⟨r,0,none⟩)),(.iface V.T V.ov),(.int .i64 (from')),(.agg (ints m.flat).toArray)] T0 [cF V r s] (dh (λ_ H=>H=[cF V r s'])):=by
 refine BD 65 Tryz.func82 rfl rfl rfl λw0 F hF=>sr λ_ J1=>XY (ints m.flat) λb7=>?_
 refine nx J1 (sr λ_ J2=>FA 0 bd aR ?_);refine LU 0 Y3 (eR m rfl) ?_;refine nx J2 (au (sr λ_ J3=>PS ?_));refine ao ?_ ?_<;>intro h11;refine PS ?_;refine nx J3 (CY (ad (P3 ?_)));refine LW 0 bd cd aG ?_;refine CZ Oj ((h0 h11)) (SM [1]) λvR=>?_
 exact aq (ag (WK [0] (bp rfl rfl)));refine PS ?_;refine nx J3 (CN (sr λ_ J4=>PS ?_));refine ao ?_ ?_<;>intro h18;refine PS ?_;refine nx J4 (CY (ad (P3 ?_)));refine LW 0 bd cd aG ?_;refine CZ Oi ((h1 h18)) (SM [1]) λvR=>?_
 exact aq (ag (WK [0] (bp rfl rfl)));refine PS ?_;refine nx J4 (CN (sr λ_ J5=>PS ?_));refine ao ?_ ?_<;>intro h25;refine PS ?_;refine nx J5 (CY (D1 0 mixed ?_));refine PD 0 ?_;refine PD 1 ?_;refine FD 2 1068 c9 DX ?_;refine FD 3 1 bd aR ?_;refine LR 4 Y3 (cm m rfl) ?_;refine FD 5 2 bd ba ?_;refine ta 6 rfl (aM (vs:=ints m.row.flat) rfl dU rfl ba rfl (λ_ h=>h.2.1) (aj m.row) (ma m 0 rfl (by decide) (whole (aj m.row)))) ?_;refine AL 7 ?_;refine CE KI (Leg.Does.hid (λa_=>kV r 1068 87 _ (gH (s.rep a_)) s.book m.whose m.row (JT inferInstance))) (SM [1]) ?_;refine EN (DN (ag (WK [0] (bp rfl ?_))));exact congrArg (λq=>[cF V r q]) (h2 h25);refine PS ?_;refine nx J5 (CN (sr λ_ J6=>PS ?_));refine ao ?_ ?_<;>intro h35;refine PS ?_;refine nx J6 (CY (ad (P2 ?_)));refine FA 185 bd bf ?_;refine LV 0 eE bf am MsgT.sp_view (y:=m.view) ?_;refine CR I9 ((h7 h35)) (SM [1]) λvR HR hR=>?_
 obtain⟨_,rfl⟩:=hR;exact aq (ag (WK [0] (bp rfl rfl)));refine PS ?_;refine nx J6 (CN (sr λ_ J7=>PS ?_));refine ao ?_ ?_<;>intro h42;refine PS ?_;refine nx J7 (CY (ad (P3 ?_)));refine LW 0 bd cd aG ?_;refine CZ Oh ((h8 h42)) (SM [1]) λvR=>?_
 exact aq (ag (WK [0] (bp rfl rfl)));refine PS ?_;refine nx J7 (CN (sr λ_ J8=>PS ?_));refine ao ?_ ?_<;>intro h49;refine PS ?_;refine nx J8 (CY (ad (P3 ?_)));refine LW 0 bd cd aG ?_;refine CZ Og ((h9 h49)) (SM [1]) λvR=>?_
 exact aq (ag (WK [0] (bp rfl rfl)));refine PS ?_;refine nx J8 (CN (ab λ_ J9=>sr λ_ J10=>P2 ?_));refine ao ?_ ?_<;>intro h55;refine nx J10 (CY (qx J9 (CY (ad (P3 ?_)))));refine LW 0 bd cd aG ?_;refine CZ FN ((hv (by omega))) (SM [1]) λvR=>?_
 exact aq (ag (WK [0] (bp rfl rfl)));refine nx J10 (CN (sr λ_ J11=>P2 ?_));refine ao ?_ ?_<;>intro h55;refine nx J11 (CY (qx J9 (CY (ad (P3 ?_)))));refine LW 0 bd cd aG ?_;refine CZ FN ((hv (by omega))) (SM [1]) λvR=>?_
 exact aq (ag (WK [0] (bp rfl rfl)));refine nx J11 (CN (sr λ_ J12=>P2 ?_));refine ao ?_ ?_<;>intro h55;refine nx J12 (CY (qx J9 (CY (ad (P3 ?_)))));refine LW 0 bd cd aG ?_;refine CZ FN ((hv (by omega))) (SM [1]) λvR=>?_
 exact aq (ag (WK [0] (bp rfl rfl)));refine nx J12 (CN (ad (PS ?_)));refine ao ?_ ?_<;>intro h59;refine PS ?_;refine nx J9 (CY (ad (P3 ?_)));refine LW 0 bd cd aG ?_;refine CZ FN ((hv (by omega))) (SM [1]) λvR=>?_
 exact aq (ag (WK [0] (bp rfl rfl)));refine PS ?_;refine nx J9 (CN (aT (ag (WK [1] (bp rfl ?_)))));exact congrArg (λq=>[cF V r q]) (hn ⟨h11,h18,h25,h35,h42,h49,by omega,by omega,by omega,by omega⟩)
theorem DV{δ:Type}{V:Env δ}{r:Nat}{s s':MS δ}{from':Int}{m:MsgT}[OkMg m](hk:m.kind=9)(h:TK V r 125 s from' m s'):TK V r 82 s from' m s':=oI V r s s' from' m (λe=>by omega) (λe=>by omega) (λe=>by omega) (λe=>by omega) (λe=>by omega) (λ_=>h) (λe=>by omega) (λe=>by omega)
theorem DW{δ:Type}{V:Env δ}{r:Nat}{s s':MS δ}{from':Int}{m:MsgT}[OkMg m](hk:m.kind=8)(h:TK V r 124 s from' m s'):TK V r 82 s from' m s':=oI V r s s' from' m (λe=>by omega) (λe=>by omega) (λe=>by omega) (λe=>by omega) (λ_=>h) (λe=>by omega) (λe=>by omega) (λe=>by omega)
theorem oH{δ:Type}{V:Env δ}{r:Nat}{s s':MS δ}{from':Int}{m:MsgT}[OkMg m](hk:m.kind=3∨m.kind=4∨m.kind=5∨m.kind=6)(h:TK V r 126 s from' m s'):TK V r 82 s from' m s':=oI V r s s' from' m (λe=>by omega) (λe=>by omega) (λe=>by omega) (λe=>by omega) (λe=>by omega) (λe=>by omega) (λ_=>h) (λe=>by omega)
theorem wB{δ:Type}(V:Env δ)(r:Nat)(s:MS δ)(w:Int)(y:RowT)[OkR V.toDk s][OkRow y]:TK V r 82 s s.id (gX w y) (fY V.toDk s s.id (gX w y)):=DV rfl (nT V r s s.id (gX w y))
theorem pU{δ:Type}(V:Env δ)(r:Nat)(s:MS δ)(s':MS δ)(from':Int)(m:MsgT)[OkR V.toDk s'][OkMg m](hl:DT 123 #[.pointer (some ⟨r,0,none⟩), .iface V.T V.ov, .agg (ints m.view.flat).toArray] T0 [cF V r s] (dh (λv H=>(∃b,v= .bool b)∧H=[cF V r s']))):
 DT 124 #[(.pointer (some ⟨r,0,none⟩)),(.iface V.T V.ov),(.int .i64 (from')),(.agg (ints m.flat).toArray)] T0 [cF V r s] (dh (λ_ H=>H=[cF V r (fy V.toDk s' from' m.whose)])):=by
 refine BD 64 Tryz.func124 rfl rfl rfl λw0 F hF=>sr λ_ J1=>XY (ints m.flat) λb7=>?_
 refine nx J1 (sr λ_ J2=>P2 ?_);refine FA 185 bd bf ?_;refine LV 0 eE bf am MsgT.sp_view (y:=m.view) ?_;refine CR I9 (hl) (SM [1]) λvR HR hR=>?_
 obtain⟨_,rfl⟩:=hR;refine nx J2 (ab λ_ J3=>ab λ_ J4=>DC mixed (cO 0 rfl rfl) (BL 1) ?_);refine PD 0 ?_;refine PD 1 ?_;refine FD 2 2 c9 bf ?_;refine ta 3 rfl (fW (vs:=ints s'.view.flat) rfl eE rfl bf rfl (λ_ h=>h.2.1) (am s'.view) (λa_=>(fS (s'.rep a_) 0 rfl (by decide) (whole (am ((s'.rep a_).view)))))) ?_;refine FD 4 1 bd aR ?_;refine LR 5 Y3 (cm m rfl) ?_;refine AL 6 ?_;refine CE KH (qM s'.view m.whose OkVw.rng) ID ?_;refine EN (PD 7 ?_);refine PD 8 ?_;refine PD 9 ?_;refine oq ?_ ?_<;>intro h24;refine PD 10 ?_;refine PD 11 ?_;refine DN (ac J4 (sr λ_ J5=>PS ?_));refine PS ?_;refine P4 ?_;refine ao ?_ ?_<;>intro h30;refine PS ?_;refine nx J5 (CY (ai (ae (WK [0] (dI rfl ?_)))));exact MQ (by rw[fy,if_pos (λh=>h30 (by rw[h];rfl))]);refine PS ?_;refine nx J5 (CN (qx J3 (ab λ_ J6=>ab λ_ J7=>D1 1 mixed ?_)));refine PD 0 ?_;refine PD 1 ?_;refine FD 2 183 c9 tF ?_;refine FD 3 1 bd aR ?_;refine LR 4 Y3 (cm m rfl) ?_;refine AL 5 ?_;refine CE MM (Leg.Does.hid (λa_=>m3 r 183 87 _ (dW (s'.rep a_)) s'.mirror m.whose)) ID ?_;refine bc ?_ ?_<;>intro h37;refine EN (PD 6 ?_);refine DN (ac J7 (CN (qx J6 (D1 1 mixed ?_))));refine PD 0 ?_;refine PD 1 ?_;refine PD 2 ?_;refine FD 3 1 bd aR ?_;refine LR 4 Y3 (cm m rfl) ?_;refine PD 5 ?_;refine PD 6 ?_;refine FD 7 183 c9 tF ?_;refine FD 8 1 bd aR ?_;refine LR 9 Y3 (cm m rfl) ?_;refine AL 10 ?_;refine CE IU (Leg.Does.hid (λa_=>lK r 183 87 _ (dW (s'.rep a_)) s'.mirror m.whose)) ID ?_
 refine EN (ta 11 rfl (ll MsgT.zero (MsgT.mk 9 m.whose (dp s'.mirror m.whose) 0 0 BallotT.zero BallotT.zero ChangeT.zero ViewT.zero) [(0,[Value.int .i64 9]),(1,[Value.int .i64 m.whose]),(2,ints (dp s'.mirror m.whose).flat)] bd bq (g:=MsgT.sg)) ?_);refine AL 12 ?_;refine CZ je (gh V r s' from' (gX m.whose (dp s'.mirror m.whose)) (λs=>fY V.toDk s s.id (gX m.whose (dp s.mirror m.whose))) (λ_=>wB V r s' m.whose _)) ID λvR=>?_
 refine EN (DN (WK [0] (bp rfl ?_)));exact MQ (by rw[fy,if_neg (λh=>h (ug h24 (by omega))),if_pos h37]);refine EN (PD 6 ?_);refine DN (ac J7 (CY (ab λ_ J8=>sr λ_ J9=>PS ?_)));refine FA 1 bd aR ?_;refine LU 1 Y3 (cm m rfl) ?_;refine tp (ll RecT.zero (RecT.mk 2 m.whose RowT.zero 0 BallotT.zero ChangeT.zero ViewT.zero) [(0,[Value.int .i64 2]),(1,[Value.int .i64 m.whose])] eb e5 (g:=RecT.sg)) ?_;refine CE w5 (ld V r s' (jr m.whose)) ID ?_;refine PS ?_;refine ao ?_ ?_<;>intro h44;refine nx J9 (CY (ai (ae (ae (WK [0] (dI rfl ?_))))));exact MQ (by rw[fy,if_neg (λh=>h (ug h24 (by omega))),if_neg (by rw[h37];decide),if_pos h44]);refine nx J9 (CN (qx J8 (D1 1 mixed ?_)));refine PD 0 ?_;refine PD 1 ?_;refine FD 2 183 c9 tF ?_;refine FD 3 1 bd aR ?_;refine LR 4 Y3 (cm m rfl) ?_;refine AL 5 ?_;refine CE L6 (Leg.Does.hid (λa_=>sT r 183 87 _ (dW ((eh V.toDk s' (jr m.whose)).rep a_)) (eh V.toDk s' (jr m.whose)).mirror m.whose)) ID ?_;refine EN (DN (ac J6 (D1 1 mixed ?_)));refine PD 0 ?_;refine PD 1 ?_;refine PD 2 ?_;refine FD 3 1 bd aR ?_;refine LR 4 Y3 (cm m rfl) ?_;refine PD 5 ?_;refine PD 6 ?_;refine FD 7 183 c9 tF ?_;refine FD 8 1 bd aR ?_;refine LR 9 Y3 (cm m rfl) ?_;refine AL 10 ?_;refine CE IU (Leg.Does.hid (λa_=>lK r 183 87 _ (dW ((l5 (eh V.toDk s' (jr m.whose)) m.whose).rep a_)) (l5 (eh V.toDk s' (jr m.whose)) m.whose).mirror m.whose)) ID ?_
 refine EN (ta 11 rfl (ll MsgT.zero (MsgT.mk 9 m.whose (dp (l5 (eh V.toDk s' (jr m.whose)) m.whose).mirror m.whose) 0 0 BallotT.zero BallotT.zero ChangeT.zero ViewT.zero) [(0,[Value.int .i64 9]),(1,[Value.int .i64 m.whose]),(2,ints (dp (l5 (eh V.toDk s' (jr m.whose)) m.whose).mirror m.whose).flat)] bd bq (g:=MsgT.sg)) ?_);refine AL 12 ?_;refine CZ je (gh V r (l5 (eh V.toDk s' (jr m.whose)) m.whose) from' (gX m.whose (dp (l5 (eh V.toDk s' (jr m.whose)) m.whose).mirror m.whose)) (λs=>fY V.toDk s s.id (gX m.whose (dp s.mirror m.whose))) (λ_=>wB V r (l5 (eh V.toDk s' (jr m.whose)) m.whose) m.whose _)) ID λvR=>?_
 refine EN (DN (WK [0] (bp rfl ?_)));exact MQ (by rw[fy,if_neg (λh=>h (ug h24 (by omega))),if_neg (by rw[h37];decide),if_neg h44]);refine PD 10 ?_;refine PD 11 ?_;refine DN (ac J4 (sr λ_ J10=>PS ?_));refine PS ?_;refine PS ?_
 iterate 3 refine UT ?_
 refine PS ?_;refine nx J10 (CY (ai (ae (WK [0] (dI rfl ?_)))));exact MQ (by rw[fy,if_pos (λh=>by rw[h]at h24;cases h24)])
section
variable {δ:Type} {V:Env δ} {r:Nat} {s:MS δ} {H:List HP} {h:Hl}
theorem FP(q:bD (cF V r s::H) h): ∃vo,bD (vQ V r s vo::H) h:=by
 obtain⟨a,q1⟩:=fq q;exact⟨a.vo,bn (p:=λa':Nat×Value=>[ah r (RepT.cells (s.rep ⟨a'.1,a.vo,a'.2⟩)) 87,V.lg a'.1 s.e,own a'.2 s.replies.length (ints (s.replies.flatMap ReplyT.flat)) 47 3,V.E s.e s.o]) (a.lg,a.rs) (Iz (aB [3,0,0,0,0] rfl q1))⟩
theorem Cp(q:bD (vQ V r s (.pointer none)::H) h):bD (cF V r {s with vote:=none}::H) h:=by
 obtain⟨a,q1⟩:=fq q;have q2:bD (Fs (.pointer none) none::([ah r (RepT.cells (s.rep ⟨a.1, .pointer none,a.2⟩)) 87,V.lg a.1 s.e,own a.2 s.replies.length (ints (s.replies.flatMap ReplyT.flat)) 47 3,V.E s.e s.o]++H)) h:=⟨em,h,Dw h,(q8 h).symm,rfl,q1⟩;exact bn (p:=λa:Adr=>[ah r (RepT.cells ({s with vote:=none}.rep a)) 87,V.lg a.lg {s with vote:=none}.e,own a.rs {s with vote:=none}.replies.length (ints ({s with vote:=none}.replies.flatMap ReplyT.flat)) 47 3,Fs a.vo {s with vote:=none}.vote,V.E {s with vote:=none}.e {s with vote:=none}.o]) ⟨a.1, .pointer none,a.2⟩ (aB [1,1,1,0,0] rfl q2)
theorem sS(hv:s.vote=none)(q:bD (cF V r s::H) h):bD (vQ V r s (.pointer none)::H) h:=by
 obtain⟨a,q1⟩:=fq q;have q2:=aB [3,0,0,0,0] rfl q1;obtain⟨h1,h2,d,rfl,e,q3⟩:=q2;rw[hv]at e;have e':a.vo= .pointer none:=e;obtain⟨lg,vo,rs⟩:=a;obtain rfl:=e';rw[nv d];exact lB _ (bn (p:=λa':Nat×Value=>[ah r (RepT.cells (s.rep ⟨a'.1, .pointer none,a'.2⟩)) 87,V.lg a'.1 s.e,own a'.2 s.replies.length (ints (s.replies.flatMap ReplyT.flat)) 47 3,V.E s.e s.o]) (lg,rs) q3) d.symm
theorem mZ{vt:VoteT}(hv:s.vote=some vt)(q:bD (cF V r s::H) h): ∃vb,bD (vQ V r s (.pointer (some ⟨vb,0,none⟩))::ah vb (VoteT.cells vt) 207::H) h:=by
 obtain⟨a,q1⟩:=fq q;have q2:=aB [3,0,0,0,0] rfl q1;obtain⟨h1,h2,d,rfl,e,q3⟩:=q2;rw[hv]at e;obtain⟨vb,e',e⟩:=e;obtain⟨lg,vo,rs⟩:=a;have e2:vo= .pointer (some ⟨vb,0,none⟩):=e';obtain rfl:=e2;refine⟨vb,eg (List.Perm.swap _ _ _) ?_⟩;exact⟨h1,h2,d,rfl,e,bn (p:=λa':Nat×Value=>[ah r (RepT.cells (s.rep ⟨a'.1, .pointer (some ⟨vb,0,none⟩),a'.2⟩)) 87,V.lg a'.1 s.e,own a'.2 s.replies.length (ints (s.replies.flatMap ReplyT.flat)) 47 3,V.E s.e s.o]) (lg,rs) q3⟩
theorem n9{vt:VoteT}{vb:Nat}(q:bD (vQ V r s (.pointer (some ⟨vb,0,none⟩))::ah vb (VoteT.cells vt) 207::H) h):bD (cF V r {s with vote:=some vt}::H) h:=by
 obtain⟨a,q1⟩:=fq q;have q2:bD ([ah r (RepT.cells (s.rep ⟨a.1, .pointer (some ⟨vb,0,none⟩),a.2⟩)) 87,V.lg a.1 s.e,own a.2 s.replies.length (ints (s.replies.flatMap ReplyT.flat)) 47 3,V.E s.e s.o]++(Fs (.pointer (some ⟨vb,0,none⟩)) (some vt)::H)) h:=Gz (λ_ e=>⟨vb,rfl,e⟩) q1;exact bn (p:=λa:Adr=>[ah r (RepT.cells ({s with vote:=some vt}.rep a)) 87,V.lg a.lg {s with vote:=some vt}.e,own a.rs {s with vote:=some vt}.replies.length (ints ({s with vote:=some vt}.replies.flatMap ReplyT.flat)) 47 3,Fs a.vo {s with vote:=some vt}.vote,V.E {s with vote:=some vt}.e {s with vote:=some vt}.o]) ⟨a.1, .pointer (some ⟨vb,0,none⟩),a.2⟩ (aB [0,0,0,1,0] rfl q2)
theorem oa{vt:VoteT}{vb:Nat}(hv:s.vote=some vt)(q:bD (vQ V r s (.pointer (some ⟨vb,0,none⟩))::ah vb (VoteT.cells vt) 207::H) h):bD (cF V r s::H) h:=by
 have q2:=n9 q
 rwa [show({s with vote:=some vt}:MS δ)=s by cases s;simp_all]at q2
end
theorem CI{δ:Type}(V:Env δ)(r:Nat)(s:MS δ)(v:ViewT):
 DT 67 #[(.pointer (some ⟨r,0,none⟩)),(.agg (ints v.flat).toArray)] T0 [cF V r s] (dh (λ_ H=>H=[cF V r (m6 s v)])):=by
 refine BD 20 Tryz.func67 rfl rfl rfl λw0 F hF=>sr λ_ J1=>XY (ints v.flat) λb3=>?_
 refine nx J1 (sr λ_ J2=>PS ?_);refine LW 0 eE bf am ?_;refine PS ?_;refine FA 2 c9 bf ?_;refine gP (vs:=ints v.flat) (i:=1) (aa rfl) rfl rfl rfl rfl rfl (by rw[(am v)];exact bf) (bj _) rfl rfl (λ_=>LC (cN _) (am _)) (λa_=>(PR (s.rep a_) 0 rfl (by have h1:=(am v);omega) (cr ((am ((s.rep a_).view)).trans (am v).symm)))) (nx J2 (sr λ_ J3=>PS ?_));refine FA 0 eE aR ?_;refine LU 0 Y3 (bb v rfl) ?_;refine tp (ll AccT.zero (AccT.mk v.epoch BallotT.zero BallotT.zero ChangeT.zero) [(0,[Value.int .i64 v.epoch])] pH oz (g:=AccT.sg)) ?_;refine PS ?_;refine FA 1058 c9 fF ?_;refine gP (vs:=ints (AccT.mk v.epoch BallotT.zero BallotT.zero ChangeT.zero).flat) (i:=1) (aa rfl) rfl rfl rfl rfl rfl (by rw[(a8 (AccT.mk v.epoch BallotT.zero BallotT.zero ChangeT.zero))];exact fF) (bj _) rfl rfl (λ_=>LC (cN _) (a8 _)) (λa_=>(kA ((MS.setView s v).rep a_) 0 rfl (by have h1:=(a8 (AccT.mk v.epoch BallotT.zero BallotT.zero ChangeT.zero));omega) (cr ((a8 (((MS.setView s v).rep a_).acc)).trans (a8 (AccT.mk v.epoch BallotT.zero BallotT.zero ChangeT.zero)).symm)))) (nx J3 (sr λ_ J4=>ck (λ_ q=>aB [1] rfl q) (TL.ex (H':=λvo:Value=>vQ V r (MS.setAcc (MS.setView s v) (AccT.mk v.epoch BallotT.zero BallotT.zero ChangeT.zero)) vo::[ah b3 (ints v.flat) 32]) (λ_ q=>FP q) (λvo=>P2 ?_))));refine FA 1067 c9 mP ?_;refine SK 0 mP (λ_=>cN _) ?_ (hc:=by exact λa_=>(PT _ rfl _))
 refine nx J4 (ad (ck (H':=cF V r {{s with view:=v}with acc:= {AccT.zero with epoch:=v.epoch},vote:=none}::[ah b3 (ints v.flat) 32]) (λ_ q=>Cp (aB [0] rfl q)) (P2 ?_)));refine FA 1066 c9 aR ?_;refine SK 0 aR (λ_=>cN _) ?_ (hc:=by exact λa_=>(lS _ rfl _));exact aq (WK [0] (bp rfl rfl))
theorem uO{δ:Type}(V:Env δ)(r:Nat)(s:MS δ)(v:ViewT)[OkR V.toDk s][OkVw v](hcl: ¬v.epoch≤s.view.epoch→DT 85 #[.pointer (some ⟨r,0,none⟩), .iface V.T V.ov] T0 [cF V r (m6 (eh V.toDk s (lm v)) v)] (dh (λ_ H=>H=[cF V r (rS V.toDk (m6 (eh V.toDk s (lm v)) v))]))):
 DT 123 #[(.pointer (some ⟨r,0,none⟩)),(.iface V.T V.ov),(.agg (ints v.flat).toArray)] T0 [cF V r s] (RI (.bool (qL V.toDk s v)) [cF V r (ii V.toDk s v)]):=by
 refine BD 28 Tryz.func123 rfl rfl rfl λw0 F hF=>sr λ_ J1=>XY (ints v.flat) λb5=>?_
 refine PS ?_;refine nx J1 (ab λ_ J2=>ab λ_ J3=>DC mixed (BL 0) (cO 1 rfl rfl) ?_);refine FD 0 0 eE aR ?_;refine LR 1 Y3 (bb v rfl) ?_;refine PD 2 ?_;refine PD 3 ?_;refine FD 4 2 c9 bf ?_;refine FD 5 2 eE aR ?_;refine ta 6 rfl (de (v:=(.int .i64 (s.view.epoch))) rfl Y3 rfl rfl (λ_ h=>h.2.2.1) (λa_=>(cg (s.rep a_) 0 rfl (by decide) (bb _ rfl)))) ?_;refine PD 7 ?_;refine iR ?_ ?_<;>intro h14;refine PD 8 ?_;refine NT 9 ?_;refine NT 10 ?_;refine NT 11 ?_;refine NT 12 ?_;refine NT 13 ?_;refine PD 14 ?_;refine DN (ac J3 (CY (sr λ_ J4=>PS ?_)));refine nx J4 (ai (ae (WK [1] (av rfl rfl ?_))));have e:ii V.toDk s v=s:=by rw[ii,if_pos h14]
 exact⟨by rw[qL,decide_eq_false (by omega),gK],congrArg (λq=>[cF V r q]) e.symm⟩;refine PD 8 ?_;refine PD 9 ?_;refine LY 10 eE bf am ?_;refine tb 11 rfl (ll RecT.zero (RecT.mk 5 0 RowT.zero 0 BallotT.zero ChangeT.zero v) [(0,[Value.int .i64 5]),(6,ints v.flat)] eb e5 (g:=RecT.sg)) ?_;refine AL 12 ?_;refine CE w5 (ld V r s (lm v)) (SM [1]) ?_;refine EN (PD 13 ?_);refine iR ?_ ?_<;>intro h20;refine PD 14 ?_;refine DN (ac J3 (CY (sr λ_ J5=>PS ?_)));refine nx J5 (ai (ae (WK [0] (av rfl rfl ?_))));have e:ii V.toDk s v=(eh V.toDk s (lm v)):=by rw[ii,if_neg h14,if_pos h20]
 exact⟨by rw[qL,decide_eq_true (by omega),decide_eq_false h20,vD],congrArg (λq=>[cF V r q]) e.symm⟩;refine PD 14 ?_;refine DN (ac J3 (CN (qx J2 (sr λ_ J6=>PS ?_))));refine LW 1 eE bf am ?_;refine CZ MJ (CI V r (eh V.toDk s (lm v)) v) ID λvR=>?_
 refine nx J6 (sr λ_ J7=>P2 ?_);refine CZ MG ((hcl (by omega))) ID λvR=>?_
 refine nx J7 (sr λ_ J8=>PS ?_);refine nx J8 (ai (WK [0] (av rfl rfl ?_)));have e:ii V.toDk s v=(rS V.toDk (m6 (eh V.toDk s (lm v)) v)):=by rw[ii,if_neg h14,if_neg h20]
 exact⟨by rw[qL,decide_eq_true (by omega),decide_eq_true (by omega),vD],congrArg (λq=>[cF V r q]) e.symm⟩
theorem Cu{δ:Type}(V:Env δ)(r:Nat)(s:MS δ)(v:ViewT)[OkR V.toDk s][OkVw v](h:v.epoch≤s.view.epoch):DT 123 #[.pointer (some ⟨r,0,none⟩), .iface V.T V.ov, .agg (ints v.flat).toArray] T0 [cF V r s] (dh (λq H=>(∃b,q= .bool b)∧H=[cF V r s])):=
 (uO V r s v (λq=>absurd h q)).mono λe H hp=>by
  cases e with
  |returned q=>exact⟨⟨_,hp.1⟩,hp.2.trans (by rw[ii,if_pos h])⟩
  |panicked c=>exact hp.elim
  |outgrown=>exact hp.elim
theorem wC{δ:Type}(V:Env δ)(r:Nat)(s:MS δ)(i:Int)[OkR V.toDk s]:TK V r 82 s s.id (oL i s.view) (fy V.toDk s s.id i):=DW rfl (pU V r s s s.id (oL i s.view) (Cu V r s s.view (Int.le_refl _)))
theorem qm{δ:Type}(V:Env δ)(r:Nat)(s:MS δ)[OkR V.toDk s]:
 DT 85 #[(.pointer (some ⟨r,0,none⟩)),(.iface V.T V.ov)] T0 [cF V r s] (dh (λ_ H=>H=[cF V r (rS V.toDk s)])):=by
 refine BD 39 Tryz.func85 rfl rfl rfl λw0 F hF=>sr λ_ J1=>PS ?_
 refine CR L2 (zr V r s) ID λvR HR hR=>?_
 obtain⟨_,rfl,rfl⟩:=hR;revert vR;intro ud;refine im 0 rfl rfl (λhlud houd=>tp (dq rfl iL rfl hlud) ?_);refine PS ?_;refine nx J1 (au ?_)
 refine bu (α:=(Nat)) (λk=>k≤(bG s).length) (λk=>[(0,(.pointer (some ⟨r,0,none⟩))),(1,(.iface V.T V.ov)),(9,ud),(10,(.int .i64 ((((bG s).length:Nat):Int)))),(11,(.int .i64 (((k:Nat):Int))))]) (λk=>[own ud ((bG s).length) (ints (bG s)) 3 1,cF V r (fX V.toDk ((bG s).take k) s)]) (λk=>(bG s).length-k) 0
  (aN _) SB
  (λ_ s=>s) (λk hinv=>?_)
 obtain hk:=hinv;have hcl:OkR V.toDk (fX V.toDk ((bG s).take k) s):=uj _ _ inferInstance;refine sr λ_ J2=>PS ?_
 refine ao ?_ ?_<;>intro h12;refine nx J2 (ab λ_ J3=>CY (qx J3 (ab λ_ J4=>au (sr λ_ J5=>?_))));have hmm1:(bG s).getD k 0∈bG s:=by rw[List.getD_eq_getElem?_getD,List.getElem?_eq_getElem (by omega)];exact cR _
 have hm1:cH ((bG s).getD k 0)=true:=(xD hmm1).1;have hn1:0≤(bG s).getD k 0∧(bG s).getD k 0<5:=of_decide_eq_true hm1;refine g9 0 rfl rfl (by omega) (λge1 ce1 he1 _=>tp (be (r:=k) he1 rfl iL aR rfl rfl (by omega) (by omega) (by omega)) ?_);refine tp (ca (v:=(.int .i64 (((bG s).getD k 0)))) rfl Y3 rfl rfl (fD 0 rfl he1 rfl) (xp (by omega))) ?_;refine PS ?_;refine nx J5 (sr λ_ J6=>PS ?_);refine CR Cj (qB ((bG s).getD k 0) hm1) ID λvR HR hR=>?_
 obtain⟨_,rfl,rfl⟩:=hR;revert vR;intro uw;refine im 0 rfl rfl (λhluw _=>g9 0 rfl rfl (by omega) (λgw capw hvw hcapw=>tp (dq rfl iL rfl hluw) ?_));refine PS ?_;refine nx J6 (au (sh 2 (sr λ_ J7=>PS ?_)));refine nx J7 (ab λ_ J8=>CY (qx J8 (ab λ_ J9=>e4 (α:=Unit) (λ_u=>True) (λ_u=>[(0,(.pointer (some ⟨r,0,none⟩))),(1,(.iface V.T V.ov)),(5,(.int .i64 (((bG s).getD k 0)))),(9,ud),(10,(.int .i64 ((((bG s).length:Nat):Int)))),(11,(.int .i64 (((k:Nat):Int)))),(16,uw),(17,(.int .i64 2)),(18,(.int .i64 0)),(19,(.bool true))]) (λ_u=>[cF V r (g8 V.toDk (fX V.toDk ((bG s).take k) s) ((bG s).getD k 0) ((((bG s).getD k 0)+1)%5)),own uw (2) ([.int .i64 ((((bG s).getD k 0)+1)%5), .int .i64 ((((bG s).getD k 0)+2)%5)]) 3 1,own ud ((bG s).length) (ints (bG s)) 3 1]) (λ_u hinv=>?_) (λtl9=>?_))));have _:=hinv;refine ac J9 (ad (tp (cq (r:=1) rfl rfl rfl (by decide)) ?_));refine PS ?_;refine aq (ek (sr λ_ J10=>PS ?_))
 refine nx J10 (ab λ_ J11=>CY (qx J11 (ab λ_ J12=>e4 (α:=Unit) (λ_u=>True) (λ_u=>[(0,(.pointer (some ⟨r,0,none⟩))),(1,(.iface V.T V.ov)),(5,(.int .i64 (((bG s).getD k 0)))),(9,ud),(10,(.int .i64 ((((bG s).length:Nat):Int)))),(11,(.int .i64 (((k:Nat):Int)))),(16,uw),(17,(.int .i64 2)),(18,(.int .i64 1)),(19,(.bool true)),(37,(.int .i64 1))]) (λ_u=>[cF V r (g8 V.toDk (g8 V.toDk (fX V.toDk ((bG s).take k) s) ((bG s).getD k 0) ((((bG s).getD k 0)+1)%5)) ((bG s).getD k 0) ((((bG s).getD k 0)+2)%5)),own uw (2) ([.int .i64 ((((bG s).getD k 0)+1)%5), .int .i64 ((((bG s).getD k 0)+2)%5)]) 3 1,own ud ((bG s).length) (ints (bG s)) 3 1]) (λ_u hinv=>?_) (λtl12=>?_))));have _:=hinv;refine ac J12 (ad (tp (cq (r:=2) rfl rfl rfl (by decide)) ?_));refine PS ?_;refine aq (ek (sr λ_ J13=>PS ?_));refine nx J13 (ab λ_ J14=>CN (aY (aC (aC (bo (ag (ac J4 (ad (AD ?_)))))))));refine PS ?_;refine aq ?_
 exact aJ ((k+1):(Nat)) (by omega) (by show(bG s).length- (k+1)< (bG s).length-k;omega)
  SB
  (λ_ q=>by
   rw[Da V.toDk (by omega) s]
   exact ak [2,0] rfl q)
 refine au (sr λ_ J15=>tp (be (r:=1) hvw rfl iL aR rfl rfl (by omega) (by omega) rfl) ?_);refine tp (ca (v:=(.int .i64 (((((bG s).getD k 0)+2)%5)))) rfl Y3 rfl rfl (fD 1 rfl hvw rfl) rfl) ?_;refine PS ?_;refine nx J15 (sr λ_ J16=>P3 ?_);refine CE FM (np V r (g8 V.toDk (fX V.toDk ((bG s).take k) s) ((bG s).getD k 0) ((((bG s).getD k 0)+1)%5)) ((bG s).getD k 0) ((((bG s).getD k 0)+2)%5) hm1 (by omega)) ID ?_;refine bc ?_ ?_<;>intro h25;refine PS ?_;refine nx J16 (CN (aT (ag ?_)))
 exact aF
  SB
  (λ_ q=>by
   rw[g8,if_pos h25]
   exact ak [0,0,0] rfl q)
  (tl12 (():Unit) trivial)
 refine PS ?_;refine nx J16 (CY (ad ?_))
 iterate 6 refine PS ?_
 refine FA 2 c9 bf ?_;refine LZ 0 eE bf am ((g8 V.toDk (fX V.toDk ((bG s).take k) s) ((bG s).getD k 0) ((((bG s).getD k 0)+1)%5)).view) ?_ (hc:=by exact λ_=>cM _);refine tp (ll MsgT.zero (MsgT.mk 8 ((bG s).getD k 0) RowT.zero 0 0 BallotT.zero BallotT.zero ChangeT.zero ((g8 V.toDk (fX V.toDk ((bG s).take k) s) ((bG s).getD k 0) ((((bG s).getD k 0)+1)%5)).view)) [(0,[Value.int .i64 8]),(1,[Value.int .i64 ((bG s).getD k 0)]),(8,ints ((g8 V.toDk (fX V.toDk ((bG s).take k) s) ((bG s).getD k 0) ((((bG s).getD k 0)+1)%5)).view).flat)] bd bq (g:=MsgT.sg)) ?_;refine CZ je (gh V r (g8 V.toDk (fX V.toDk ((bG s).take k) s) ((bG s).getD k 0) ((((bG s).getD k 0)+1)%5)) ((((bG s).getD k 0)+2)%5) (oL ((bG s).getD k 0) (g8 V.toDk (fX V.toDk ((bG s).take k) s) ((bG s).getD k 0) ((((bG s).getD k 0)+1)%5)).view) (λs_=>fy V.toDk s_ s_.id ((bG s).getD k 0)) (λ_=>wC V r (g8 V.toDk (fX V.toDk ((bG s).take k) s) ((bG s).getD k 0) ((((bG s).getD k 0)+1)%5)) ((bG s).getD k 0))) ID λvR=>?_
 refine aq (ag ?_)
 exact aF
  SB
  (λ_ q=>by
   rw[g8,if_neg (by rw[h25];decide)]
   exact ak [0,0,0] rfl q)
  (tl12 (():Unit) trivial)
 refine au (sr λ_ J17=>tp (be (r:=0) hvw rfl iL aR rfl rfl (by omega) (by omega) rfl) ?_);refine tp (ca (v:=(.int .i64 (((((bG s).getD k 0)+1)%5)))) rfl Y3 rfl rfl (fD 0 rfl hvw rfl) rfl) ?_;refine PS ?_;refine nx J17 (sr λ_ J18=>P3 ?_);refine CE FM (np V r (fX V.toDk ((bG s).take k) s) ((bG s).getD k 0) ((((bG s).getD k 0)+1)%5) hm1 (by omega)) (SM [2]) ?_;refine bc ?_ ?_<;>intro h25;refine PS ?_;refine nx J18 (CN (aT (ag ?_)))
 exact aF
  SB
  (λ_ q=>by
   rw[g8,if_pos h25]
   exact ak [0,0,0] rfl q)
  (tl9 (():Unit) trivial)
 refine PS ?_;refine nx J18 (CY (ad ?_))
 iterate 6 refine PS ?_
 refine FA 2 c9 bf ?_;refine LZ 0 eE bf am ((fX V.toDk ((bG s).take k) s).view) ?_ (hc:=by exact λ_=>cM _);refine tp (ll MsgT.zero (MsgT.mk 8 ((bG s).getD k 0) RowT.zero 0 0 BallotT.zero BallotT.zero ChangeT.zero ((fX V.toDk ((bG s).take k) s).view)) [(0,[Value.int .i64 8]),(1,[Value.int .i64 ((bG s).getD k 0)]),(8,ints ((fX V.toDk ((bG s).take k) s).view).flat)] bd bq (g:=MsgT.sg)) ?_;refine CZ je (gh V r (fX V.toDk ((bG s).take k) s) ((((bG s).getD k 0)+1)%5) (oL ((bG s).getD k 0) (fX V.toDk ((bG s).take k) s).view) (λs_=>fy V.toDk s_ s_.id ((bG s).getD k 0)) (λ_=>wC V r (fX V.toDk ((bG s).take k) s) ((bG s).getD k 0))) ID λvR=>?_
 refine aq (ag ?_)
 exact aF
  SB
  (λ_ q=>by
   rw[g8,if_neg (by rw[h25];decide)]
   exact ak [0,0,0] rfl q)
  (tl9 (():Unit) trivial)
 refine nx J2 (ab λ_ J19=>CN (aY (aC (aC (bo (WK [1] (bp rfl ?_)))))));obtain rfl:k=(bG s).length:=by omega
 exact MQ (by rw[eI];rfl)
theorem uP{δ:Type}(V:Env δ)(r:Nat)(s:MS δ)(v:ViewT)[OkR V.toDk s][OkVw v]:DT 123 #[.pointer (some ⟨r,0,none⟩), .iface V.T V.ov, .agg (ints v.flat).toArray] T0 [cF V r s] (RI (.bool (qL V.toDk s v)) [cF V r (ii V.toDk s v)]):=uO V r s v λ_=>qm V r _
theorem uQ{δ:Type}(V:Env δ)(r:Nat)(s:MS δ)(v:ViewT)[OkR V.toDk s][OkVw v]:DT 123 #[.pointer (some ⟨r,0,none⟩), .iface V.T V.ov, .agg (ints v.flat).toArray] T0 [cF V r s] (dh (λq H=>(∃b,q= .bool b)∧H=[cF V r (ii V.toDk s v)])):=
 (uP V r s v).mono λe H hp=>by
  cases e with
  |returned q=>exact⟨⟨_,hp.1⟩,hp.2⟩
  |panicked c=>exact hp.elim
  |outgrown=>exact hp.elim
theorem wi{δ:Type}(V:Env δ)(r:Nat)(s:MS δ)(from':Int)(m:MsgT)[OkR V.toDk s][OkMg m]:TK V r 124 s from' m (mE V.toDk s from' m):=pU V r s _ from' m (uQ V r s m.view)
theorem Mv:Tryz.prog.eqGuardType Tryz.prog.depth 80=false:=by kernel_rfl
theorem Ms:Tryz.prog.keyTypeAt 6 80=true:=by kernel_rfl
theorem MY:qh Tryz.prog 6 80=some 2:=by kernel_rfl
theorem HD:(match Tryz.prog.underlying 80 with|some (.struct _)|some (.array _ _)=>true|_=>false)=true:=by kernel_rfl
theorem HM:Tryz.prog.cellsOf 80=2:=by kernel_rfl
theorem Ph:Tryz.prog.eqGuardType Tryz.prog.depth 82=false:=by kernel_rfl
theorem Pd:Tryz.prog.keyTypeAt 6 82=true:=by kernel_rfl
theorem PK:qh Tryz.prog 6 82=some 8:=by kernel_rfl
theorem OB:(match Tryz.prog.underlying 82 with|some (.struct _)|some (.array _ _)=>true|_=>false)=true:=by kernel_rfl
theorem OF:Tryz.prog.cellsOf 82=8:=by kernel_rfl
theorem zk(a b:BallotT):
 DT 183 #[(.agg (ints a.flat).toArray),(.agg (ints b.flat).toArray)] T0 [] (RI (.bool (Ct a b)) []):=by
 refine BD 20 Tryz.func183 rfl rfl rfl λw0 F hF=>sr λ_ J1=>XY (ints a.flat) λb2=>?_
 refine XY (ints b.flat) λb3=>?_
 refine PS ?_;refine nx J1 (ab λ_ J2=>sr λ_ J3=>FA 0 ka aR ?_);refine LU 1 Y3 (e8 a rfl) ?_;refine FA 0 ka aR ?_;refine LU 0 Y3 (e8 b rfl) ?_;refine PS ?_;refine ao ?_ ?_<;>intro h9;refine nx J3 (CY (sr λ_ J4=>FA 0 ka aR ?_));refine LU 1 Y3 (e8 a rfl) ?_;refine FA 0 ka aR ?_;refine LU 0 Y3 (e8 b rfl) ?_;refine P2 ?_;refine nx J4 (ai (ae (WK [] (av rfl rfl ?_))));exact⟨congrArg Value.bool (by simp[Ct, *]),rfl⟩;refine nx J3 (CN (qx J2 (sr λ_ J5=>FA 1 ka aR ?_)));refine LU 1 Y3 (BallotT.at_who a rfl) ?_;refine FA 1 ka aR ?_;refine LU 0 Y3 (BallotT.at_who b rfl) ?_;refine P2 ?_;refine nx J5 (ai (WK [] (av rfl rfl ?_)));exact⟨congrArg Value.bool (by simp[Ct, *]),rfl⟩
theorem sL(a:AccT)(ep:Int)(b:BallotT):
 DT 165 #[(.agg (ints a.flat).toArray),(.int .i64 (ep)),(.agg (ints b.flat).toArray)] T0 [] (RI (.bool (zI a ep b)) []):=by
 refine BD 22 Tryz.func165 rfl rfl rfl λw0 F hF=>sr λ_ J1=>XY (ints a.flat) λb3=>?_
 refine XY (ints b.flat) λb5=>?_
 refine PS ?_;refine nx J1 (sr λ_ J2=>PS ?_);refine FA 0 pH aR ?_;refine LU 1 Y3 (AccT.at_epoch a rfl) ?_;refine PS ?_;refine ao ?_ ?_<;>intro h10;refine PS ?_
 iterate 3 refine UT ?_
 refine P2 ?_
 iterate 4 refine UT ?_
 refine P2 ?_;refine nx J2 (ai (WK [] (av rfl rfl ?_)));exact⟨congrArg Value.bool (by simp[zI, *]),rfl⟩;refine PS ?_;refine FA 0 ka aR ?_;refine LU 0 Y3 (e8 b rfl) ?_;refine PS ?_;refine ao ?_ ?_<;>intro h14;refine P2 ?_
 iterate 4 refine UT ?_
 refine P2 ?_;refine nx J2 (ai (WK [] (av rfl rfl ?_)));exact⟨congrArg Value.bool (by simp[zI, *]),rfl⟩;refine P2 ?_;refine LW 0 ka cv ap ?_;refine FA 1 pH cv ?_;refine LV 1 ka cv ap AccT.sp_vow (y:=a.vow) ?_;refine CE LI (zk b a.vow) ID ?_;refine P2 ?_;refine nx J2 (ai (WK [] (av rfl rfl ?_)));exact⟨congrArg Value.bool (by simp[zI, *]),rfl⟩
theorem nz(a:AccT)(ep:Int)(b:BallotT):
 DT 132 #[(.agg (ints a.flat).toArray),(.int .i64 (ep)),(.agg (ints b.flat).toArray)] T0 [] (RI (.tuple #[.agg (ints (bW a ep b).1.flat).toArray, .bool (bW a ep b).2]) []):=by
 refine BD 16 Tryz.func132 rfl rfl rfl λw0 F hF=>sr λ_ J1=>XY (ints a.flat) λb3=>?_
 refine XY (ints b.flat) λb5=>?_
 refine XZ H4 (ints AccT.zero.flat) λb6=>?_
 refine PS ?_;refine nx J1 (ab λ_ J2=>sr λ_ J3=>LW 2 pH fF a8 ?_);refine PS ?_;refine LW 1 ka cv ap ?_;refine CE LN (sL a ep b) ID ?_;refine bc ?_ ?_<;>intro h11;refine nx J3 (CY (sr λ_ J4=>LW 2 pH fF a8 ?_));refine SW 0 fF a8 ?_;refine PS ?_;refine nx J4 (ai (ae (RT 0 [] pH fF (a8 _) ?_)));exact⟨by rw[bW];simp_all,rfl⟩;refine nx J3 (CN (qx J2 (sr λ_ J5=>LW 1 ka cv ap ?_)));refine FA 1 pH cv ?_;refine SP 2 cv ap a8 AccT.wp_vow ?_;refine nx J5 (sr λ_ J6=>LW 2 pH fF a8 ?_);refine SW 0 fF a8 ?_;refine PS ?_;refine nx J6 (ai (RT 0 [] pH fF (a8 _) ?_));exact⟨by rw[bW];simp_all,rfl⟩
theorem u9(a:AccT)(ep:Int)(b:BallotT)(ch:ChangeT):
 DT 182 #[(.agg (ints a.flat).toArray),(.int .i64 (ep)),(.agg (ints b.flat).toArray),(.agg (ints ch.flat).toArray)] T0 [] (RI (.tuple #[.agg (ints (gy a ep b ch).1.flat).toArray, .bool (gy a ep b ch).2]) []):=by
 refine BD 22 Tryz.func182 rfl rfl rfl λw0 F hF=>sr λ_ J1=>XY (ints a.flat) λb4=>?_
 refine XY (ints b.flat) λb6=>?_
 refine XY (ints ch.flat) λb7=>?_
 refine XZ H4 (ints AccT.zero.flat) λb8=>?_
 refine PS ?_;refine nx J1 (ab λ_ J2=>sr λ_ J3=>LW 3 pH fF a8 ?_);refine PS ?_;refine LW 2 ka cv ap ?_;refine CE LN (sL a ep b) ID ?_;refine bc ?_ ?_<;>intro h13;refine nx J3 (CY (sr λ_ J4=>LW 3 pH fF a8 ?_));refine SW 0 fF a8 ?_;refine PS ?_;refine nx J4 (ai (ae (RT 0 [] pH fF (a8 _) ?_)));exact⟨by rw[gy];simp_all,rfl⟩;refine nx J3 (CN (qx J2 (ab λ_ J5=>D2 2 1 mixed ?_)));refine LY 0 ka cv ap ?_;refine LY 1 ka cv ap ?_;refine LY 2 na fp aI ?_;refine FD 3 1 pH cv ?_;refine AL 4 ?_;refine SP 3 cv ap a8 AccT.wp_vow ?_;refine EN (FD 5 3 pH cv ?_);refine AL 6 ?_;refine SP 3 cv ap a8 AccT.wp_had ?_;refine EN (FD 7 5 pH fp ?_);refine AL 8 ?_;refine SP 3 fp aI a8 AccT.wp_change ?_;refine EN (DN (ac J5 (sr λ_ J6=>LW 3 pH fF a8 ?_)));refine SW 0 fF a8 ?_;refine PS ?_;refine nx J6 (ai (RT 0 [] pH fF (a8 _) ?_));exact⟨by rw[gy];simp_all,rfl⟩
theorem nu(b:Int):
 DT 14 #[(.int .i64 (b))] T0 [] (dh (λr' H=>∃u,r'=u∧H=[own u (pq b).length (ints (pq b)) 3 1])):=by
 refine BD 19 Tryz.func14 rfl rfl rfl λw0 F hF=>sr λ_ J1=>PS ?_
 refine nx J1 (sr λ_ J2=>PS ?_);refine nx J2 (ab λ_ J3=>sr λ_ J4=>PS ?_);refine nx J4 (au ?_)
 refine bu (α:=(Nat)×(Value)) (λ⟨k,u⟩=>k≤5∧u.oneCell'=true) (λ⟨k,u⟩=>[(0,(.int .i64 (b))),(2,(.slice none 0 0)),(3,u),(5,(.int .i64 (((k:Nat):Int))))]) (λ⟨k,u⟩=>[own u ((ko b k).length) (ints (ko b k)) 3 1]) (λ⟨k,u⟩=>5-k) (0,(.slice none 0 0))
  ⟨aN _,rfl⟩ SB
  (λ_ s=>fP 3 1 (ak [] rfl s)) (λ⟨k,u⟩ hinv=>?_)
 obtain⟨hk,hu⟩:=hinv;have hol:=tJ b k;refine sr λ_ J5=>PS ?_
 refine ao ?_ ?_<;>intro h6;refine nx J5 (ab λ_ J6=>CY (qx J6 (ab λ_ J7=>au (sr λ_ J8=>P2 ?_))));refine nx J8 (sr λ_ J9=>P2 ?_);refine tp (jX (r:=(b.fdiv (2^min ((k:Nat):Int).toNat IntKind.i64.bits))) rfl rfl rfl (by omega) rfl) ?_;refine tp (pD (r:=((b.fdiv (2^min ((k:Nat):Int).toNat IntKind.i64.bits))%2)) rfl rfl rfl (mask (k:=1) (by decide) _)) ?_;refine PS ?_;refine ao ?_ ?_<;>intro h12;refine nx J9 (CY (ad (P2 ?_)));refine aQ (cells:=#[(.int .i64 (((k:Nat):Int)))]) (aa rfl) rfl rfl rfl iL oA rfl rfl rfl (by as_aux_lemma=>kernel_rfl) (λb15=>ci (k:=1) (news:=[(.int .i64 (((k:Nat):Int)))]) (nn':=(ko b k).length+1) (xs':=ints (ko b k)++[(.int .i64 (((k:Nat):Int)))]) (aa rfl) rfl rfl rfl iL oA rfl rfl rfl rfl rfl rfl (λ_ _=>gS rfl (RO 0) rfl) (by simp[Value.oneCell']) (by simp only[maxLen];omega) (by omega) (by simp) (by simp) (λv16 ov16=>PS ?_));refine aq (ag (ac J7 (ad (AD ?_))));refine PS ?_;refine aq ?_
 exact aJ ((k+1,v16):(Nat)×(Value)) ⟨by omega,ov16⟩ (by show 5- (k+1)<5-k;omega)
  SB
  (λ_ q=>by
   show bD [own v16 (ko b (k+1)).length (ints (ko b (k+1))) 3 1] _;rw[show ko b (k+1)=ko b k++[((k:Nat):Int)]by rw[wu,if_pos (by rw[HO,decide_eq_true (by assumption)])],af,ej]
   exact ak [1] rfl q)
 refine nx J9 (CN (aT (ag (ac J7 (ad (AD ?_))))));refine PS ?_;refine aq ?_
 exact aJ ((k+1,u):(Nat)×(Value)) ⟨by omega,hu⟩ (by show 5- (k+1)<5-k;omega)
  SB
  (λ_ q=>by
   show bD [own u (ko b (k+1)).length (ints (ko b (k+1))) 3 1] _;rw[show ko b (k+1)=ko b k by rw[wu,if_neg (by rw[HO,decide_eq_false (by assumption)];decide),aP]]
   exact ak [0] rfl q)
 refine nx J5 (ab λ_ J10=>CN (aY (aC (aC (bo (ac J3 (sr λ_ J11=>P2 ?_)))))));refine nx J11 (ai (WK [0] (av rfl rfl ?_)));obtain rfl:k=5:=by omega
 exact⟨u,rfl,rfl⟩
theorem AA(part all:Int):
 DT 192 #[(.int .i64 (part)),(.int .i64 (all))] T0 [] (RI (.bool (Mb part all)) []):=by
 refine BD 15 Tryz.func192 rfl rfl rfl λw0 F hF=>sr λ_ J1=>PS ?_
 refine nx J1 (sr λ_ J2=>P2 ?_);refine tp (pD (r:=(qR .i64 part all)) rfl rfl rfl rfl) ?_;refine CR KJ (nu (qR .i64 part all)) ID λvR HR hR=>?_
 obtain⟨_,rfl,rfl⟩:=hR;revert vR;intro us1;refine im 0 rfl rfl (λhlus1 _=>?_);have hzus1:=tJ (qR .i64 part all) 5;change (pq (qR .i64 part all)).length≤5 at hzus1;refine tp (dq rfl iL rfl hlus1) ?_;refine tp (Lq (r:=(2* (((pq (qR .i64 part all)).length:Nat):Int))) rfl rfl rfl (bF (by omega) (by omega))) ?_;refine PS ?_;refine CR KJ (nu all) ID λvR HR hR=>?_
 obtain⟨_,rfl,rfl⟩:=hR;revert vR;intro us2;refine im 0 rfl rfl (λhlus2 _=>?_);have hzus2:=tJ all 5;change (pq all).length≤5 at hzus2;refine tp (dq rfl iL rfl hlus2) ?_;refine P2 ?_;exact nx J2 (ai (WK [] (av rfl rfl ⟨rfl,rfl⟩)))
theorem jk(v:ViewT)(bits:Int):
 DT 184 #[(.agg (ints v.flat).toArray),(.int .i64 (bits))] T0 [] (RI (.bool (gE v bits)) []):=by
 refine BD 9 Tryz.func184 rfl rfl rfl λw0 F hF=>sr λ_ J1=>XY (ints v.flat) λb2=>?_
 refine PS ?_;refine nx J1 (sr λ_ J2=>PS ?_);refine FA 1 eE aR ?_;refine LU 0 Y3 (jW v rfl) ?_;refine CE NV (AA bits v.members) ID ?_;refine PS ?_;exact nx J2 (ai (WK [] (av rfl rfl ⟨rfl,rfl⟩)))
theorem zS(v:ViewT)(b:BallotT)(ch:ChangeT):
 DT 133 #[(.agg (ints v.flat).toArray),(.agg (ints b.flat).toArray),(.agg (ints ch.flat).toArray)] T0 [] (dh (λr' H=>∃vb,r'= .pointer (some ⟨vb,0,none⟩)∧H=[ah vb (VoteT.cells (ju v b ch)) 207])):=by
 refine BD 12 Tryz.func133 rfl rfl rfl λw0 F hF=>sr λ_ J1=>XY (ints v.flat) λb3=>?_
 refine XY (ints b.flat) λb4=>?_
 refine XY (ints ch.flat) λb5=>?_
 refine PS ?_;refine nx J1 (sr λ_ J2=>LW 2 eE bf am ?_);refine LW 1 ka cv ap ?_;refine LW 0 na fp aI ?_;refine tp (yL (cs:=VoteT.cells (VoteT.mk v b ch BallotT.zero 0 0 false)) (segs:=[ints ViewT.zero.flat,ints BallotT.zero.flat,ints ChangeT.zero.flat,ints BallotT.zero.flat,[Value.int .i64 0],[Value.int .i64 0],[Value.bool false]]) (res:=[ints v.flat,ints b.flat,ints ch.flat,ints BallotT.zero.flat,[Value.int .i64 0],[Value.int .i64 0],[Value.bool false]]) (parts:=[(0,ints v.flat),(1,ints b.flat),(2,ints ch.flat)]) rfl rfl jw (by kernel_rfl) (by kernel_rfl) rfl (e9 rfl ((am v).trans (am ViewT.zero).symm) (e9 rfl ((ap b).trans (ap BallotT.zero).symm) (e9 rfl ((aI ch).trans (aI ChangeT.zero).symm) lF))) (fw (VoteT.mk v b ch BallotT.zero 0 0 false)).symm) ?_;refine XY (VoteT.cells (VoteT.mk v b ch BallotT.zero 0 0 false)) λb11=>?_
 refine PS ?_;exact nx J2 (ai (WK [0] (av rfl rfl ⟨b11,rfl,rfl⟩)))
theorem bL(vb:Nat)(v:VoteT):
 DT 134 #[(.pointer (some ⟨vb,0,none⟩))] T0 [ah vb (VoteT.cells v) 207] (RI (.agg (ints v.ballot.flat).toArray) [ah vb (VoteT.cells v) 207]):=by
 refine BD 7 Tryz.func134 rfl rfl rfl λw0 F hF=>sr λ_ J1=>XZ O2 (ints BallotT.zero.flat) λb2=>?_
 refine nx J1 (sr λ_ J2=>P2 ?_);refine FA 7 jw cv ?_;refine LV 1 ka cv ap VoteT.sp_ballot (y:=v.ballot) ?_;refine SW 0 cv ap ?_;refine nx J2 (ai (RC 0 [1] ka cv (ap _) ?_));exact⟨rfl,rfl⟩
theorem c8(vb:Nat)(v:VoteT):
 DT 89 #[(.pointer (some ⟨vb,0,none⟩))] T0 [ah vb (VoteT.cells v) 207] (RI (.agg (ints v.change.flat).toArray) [ah vb (VoteT.cells v) 207]):=by
 refine BD 7 Tryz.func89 rfl rfl rfl λw0 F hF=>sr λ_ J1=>XZ O3 (ints ChangeT.zero.flat) λb2=>?_
 refine nx J1 (sr λ_ J2=>P2 ?_);refine FA 9 jw fp ?_;refine LV 1 na fp aI VoteT.sp_change (y:=v.change) ?_;refine SW 0 fp aI ?_;refine nx J2 (ai (RC 0 [1] na fp (aI _) ?_));exact⟨rfl,rfl⟩
theorem nR(vb:Nat)(v:VoteT):
 DT 135 #[(.pointer (some ⟨vb,0,none⟩))] T0 [ah vb (VoteT.cells v) 207] (RI (.bool v.putting) [ah vb (VoteT.cells v) 207]):=by
 refine BD 7 Tryz.func135 rfl rfl rfl λw0 F hF=>sr λ_ J1=>PS ?_
 refine nx J1 (sr λ_ J2=>P2 ?_);refine FA 16 jw k0 ?_;refine LU 0 Y4 (l6 v rfl) ?_;refine PS ?_;exact nx J2 (ai (WK [0] (av rfl rfl ⟨rfl,rfl⟩)))
theorem DJ(vb:Nat)(v:VoteT)(who:Int)(b had:BallotT)(ch:ChangeT)(hb:WF b.flat)(hvb:WF v.ballot.flat):
 DT 162 #[(.pointer (some ⟨vb,0,none⟩)),(.int .i64 (who)),(.agg (ints b.flat).toArray),(.agg (ints had.flat).toArray),(.agg (ints ch.flat).toArray)] T0 [ah vb (VoteT.cells v) 207] (RI (.bool (eO v who b had ch).2) [ah vb (VoteT.cells (eO v who b had ch).1) 207]):=by
 refine BD 76 Tryz.func162 rfl rfl rfl λw0 F hF=>sr λ_ J1=>XY (ints b.flat) λb7=>?_
 refine XY (ints had.flat) λb8=>?_
 refine XY (ints ch.flat) λb9=>?_
 refine PS ?_;refine nx J1 (ab λ_ J2=>ab λ_ J3=>D2 3 2 mixed ?_);refine PD 0 ?_;refine PD 1 ?_;refine FD 2 16 jw k0 ?_;refine LR 3 Y4 (l6 v rfl) ?_;refine oq ?_ ?_<;>intro h14;refine PD 4 ?_;refine NT 5 ?_;refine NT 6 ?_;refine NT 7 ?_;refine NT 8 ?_;refine NT 9 ?_;refine NT 10 ?_;refine PD 11 ?_;refine PD 12 ?_;refine NT 13 ?_;refine NT 14 ?_;refine NT 15 ?_;refine NT 16 ?_;refine NT 17 ?_;refine NT 18 ?_;refine NT 19 ?_;refine PD 20 ?_;refine DN (ac J3 (CY (sr λ_ J4=>PS ?_)));refine nx J4 (ai (ae (WK [3] (av rfl rfl ?_))));have e:eO v who b had ch=(v,false):=by rw[eO,h14,if_pos (by rfl)]
 exact⟨congrArg (λq:VoteT×Bool=>Value.bool q.2) e.symm,congrArg (λq:VoteT×Bool=>[ah vb (VoteT.cells q.1) 207]) e.symm⟩;refine PD 4 ?_;refine LY 5 ka cv ap ?_;refine PD 6 ?_;refine PD 7 ?_;refine FD 8 7 jw cv ?_;refine tb 9 rfl (aM (vs:=ints v.ballot.flat) rfl ka rfl cv rfl (λ_ h=>h.2.1) (ap v.ballot) (Ll v 0 rfl (by decide) (whole (ap v.ballot)))) ?_;refine tb 10 rfl (Lp (a:=b.flat) (b:=v.ballot.flat) (m:=6) (c:=2) Mv Ms rfl MY (eY (ap b)) (eY (ap v.ballot)) ⟨iC HD HM (eY (ap b)),iC HD HM (eY (ap v.ballot))⟩ hb hvb rfl rfl rfl) ?_;refine iR ?_ ?_<;>intro h21;refine PD 11 ?_;refine PD 12 ?_;refine NT 13 ?_;refine NT 14 ?_;refine NT 15 ?_;refine NT 16 ?_;refine NT 17 ?_;refine NT 18 ?_;refine NT 19 ?_;refine PD 20 ?_;refine DN (ac J3 (CY (sr λ_ J5=>PS ?_)));refine nx J5 (ai (ae (WK [3] (av rfl rfl ?_))));have e:eO v who b had ch=(v,false):=by rw[eO,nD,decide_eq_false h21,if_pos (by rw[h14];rfl)]
 exact⟨congrArg (λq:VoteT×Bool=>Value.bool q.2) e.symm,congrArg (λq:VoteT×Bool=>[ah vb (VoteT.cells q.1) 207]) e.symm⟩;refine PD 11 ?_;refine PD 12 ?_;refine PD 13 ?_;refine PD 14 ?_;refine FD 15 0 jw bf ?_;refine tb 16 rfl (aM (vs:=ints v.view.flat) rfl eE rfl bf rfl (λ_ h=>h.2.1) (am v.view) (Dr v 0 rfl (by decide) (whole (am v.view)))) ?_;refine PD 17 ?_;refine AL 18 ?_;refine CE p9 (dD v.view who) ID ?_;refine bc ?_ ?_<;>intro h29;have hw:0≤who∧who<5:=by unfold iO cH at h29;simp only[ax,decide_eq_true_eq]at h29;exact h29.1
 refine EN (PD 19 ?_);refine PD 20 ?_;refine DN (ac J3 (CN (qx J2 (ab λ_ J6=>D0 mixed ?_))));refine PD 0 ?_;refine PD 1 ?_;refine FD 2 14 jw aR ?_;refine PD 4 ?_;refine ta 5 rfl (yJ (r:=(c7 who)) rfl rfl rfl (by omega) rfl) ?_;refine AL 3 ?_;refine LU 3 Y3 (lP v rfl) ?_;refine EN (ta 6 rfl (JS (r:=(iF .i64 v.vowed (c7 who))) rfl rfl rfl rfl) ?_);refine PD 7 ?_;refine FD 8 14 jw aR ?_;refine AL 9 ?_;refine SS 3 aR (nA _) (VoteT.set_vowed v rfl _) ?_;refine EN (DN (ac J6 (ab λ_ J7=>ab λ_ J8=>D2 1 3 mixed ?_)));refine FD 0 0 ka aR ?_;refine LR 1 Y3 (e8 had rfl) ?_;refine PD 2 ?_;refine iR ?_ ?_<;>intro h43;refine PD 3 ?_;refine PD 4 ?_;refine PD 5 ?_;refine FD 6 12 jw cv ?_;refine tb 7 rfl (aM (vs:=ints v.best.flat) rfl ka rfl cv rfl (λ_ h=>h.2.2.1) (ap v.best) (VoteT.sub_best (VoteT.mk v.view v.ballot v.change v.best (iF .i64 v.vowed (c7 who)) v.took v.putting) 0 rfl (by decide) (whole (ap v.best)))) ?_;refine LY 8 ka cv ap ?_;refine AL 9 ?_;refine CE LI (zk v.best had) ID ?_;refine bc ?_ ?_<;>intro h50;refine EN (PD 10 ?_);refine DN (ac J8 (CY (D2 1 0 mixed ?_)));refine PD 0 ?_;refine PD 1 ?_;refine LY 2 ka cv ap ?_;refine LY 3 na fp aI ?_;refine PD 4 ?_;refine FD 5 12 jw cv ?_;refine AL 6 ?_;refine SP 3 cv ap nA VoteT.wp_best ?_;refine EN (PD 7 ?_);refine FD 8 9 jw fp ?_;refine AL 9 ?_;refine SP 3 fp aI nA VoteT.wp_change ?_
 refine EN (DN (ac J7 (ab λ_ J9=>e4 (α:=Unit) (λ_=>True) (λ_u=>[(0,(.pointer (some ⟨vb,0,none⟩))),(10,(.bool false))]) (λ_u=>[ah b9 (ints ch.flat) 61,ah b8 (ints had.flat) 80,ah b7 (ints b.flat) 80,ah vb (VoteT.cells (VoteT.mk v.view v.ballot ch had (iF .i64 v.vowed (c7 who)) v.took (gE v.view (iF .i64 v.vowed (c7 who))))) 207]) (λ_u _=>?_) (λtl9=>?_))));refine ac J9 (sr λ_ J10=>P2 ?_);refine FA 16 jw k0 ?_;refine LT 3 Y4 (.bool (gE v.view (iF .i64 v.vowed (c7 who)))) ?_ (hc:=by exact l6 _ rfl);refine PS ?_;refine nx J10 (ai (WK [3] (av rfl rfl ?_)));have e:eO v who b had ch=((VoteT.mk v.view v.ballot ch had (iF .i64 v.vowed (c7 who)) v.took (gE v.view (iF .i64 v.vowed (c7 who)))),gE v.view (iF .i64 v.vowed (c7 who))):=by rw[eO,nD,decide_eq_true (show b.flat=v.ballot.flat from Decidable.not_not.1 h21),h29,h14,if_neg (by decide),wc,decide_eq_true (show 0<had.round by omega),h50,if_pos (by decide)]
 exact⟨congrArg (λq:VoteT×Bool=>Value.bool q.2) e.symm,congrArg (λq:VoteT×Bool=>[ah vb (VoteT.cells q.1) 207]) e.symm⟩;refine D0 mixed ?_;refine PD 0 ?_;refine PD 1 ?_;refine PD 2 ?_;refine FD 3 0 jw bf ?_;refine PD 5 ?_;refine PD 6 ?_;refine FD 7 14 jw aR ?_;refine cC [4,8] (by kernel_rfl) rfl (aE rfl ?_ ?_);refine LV 3 eE bf am pJ (y:=v.view) ?_;refine EN (AL 8 ?_);refine LT 3 Y3 (.int .i64 ((iF .i64 v.vowed (c7 who)))) ?_ (hc:=by exact lP _ rfl);refine EN (AL 9 ?_);refine CE w4 (jk v.view (iF .i64 v.vowed (c7 who))) ID ?_;refine EN (PD 10 ?_);refine FD 11 16 jw k0 ?_;refine AL 12 ?_;refine SS 3 k0 (nA _) (k8 _ rfl _) ?_;refine EN (DN ?_)
 exact aF
  SB
  (λ_ s=>s)
  (tl9 (():Unit) trivial)
 refine aE rfl ?_ ?_;refine LT 3 Y3 (.int .i64 ((iF .i64 v.vowed (c7 who)))) ?_ (hc:=by exact lP _ rfl);refine EN (AL 4 ?_);refine LV 3 eE bf am pJ (y:=v.view) ?_;refine EN (AL 9 ?_);refine CE w4 (jk v.view (iF .i64 v.vowed (c7 who))) ID ?_;refine EN (PD 10 ?_);refine FD 11 16 jw k0 ?_;refine AL 12 ?_;refine SS 3 k0 (nA _) (k8 _ rfl _) ?_;refine EN (DN ?_)
 exact aF
  SB
  (λ_ s=>s)
  (tl9 (():Unit) trivial)
 exact bz;refine EN (PD 10 ?_);refine DN (ac J8 (CN (qx J7 (ab λ_ J11=>e4 (α:=Unit) (λ_=>True) (λ_u=>[(0,(.pointer (some ⟨vb,0,none⟩))),(10,(.bool false))]) (λ_u=>[ah b9 (ints ch.flat) 61,ah b8 (ints had.flat) 80,ah b7 (ints b.flat) 80,ah vb (VoteT.cells (VoteT.mk v.view v.ballot v.change v.best (iF .i64 v.vowed (c7 who)) v.took (gE v.view (iF .i64 v.vowed (c7 who))))) 207]) (λ_u _=>?_) (λtl11=>?_)))));refine ac J11 (sr λ_ J12=>P2 ?_);refine FA 16 jw k0 ?_;refine LT 3 Y4 (.bool (gE v.view (iF .i64 v.vowed (c7 who)))) ?_ (hc:=by exact l6 _ rfl);refine PS ?_;refine nx J12 (ai (WK [3] (av rfl rfl ?_)));have e:eO v who b had ch=((VoteT.mk v.view v.ballot v.change v.best (iF .i64 v.vowed (c7 who)) v.took (gE v.view (iF .i64 v.vowed (c7 who)))),gE v.view (iF .i64 v.vowed (c7 who))):=by rw[eO,nD,decide_eq_true (show b.flat=v.ballot.flat from Decidable.not_not.1 h21),h29,h14,if_neg (by decide),wc,h50,lZ,if_neg (by decide)]
 exact⟨congrArg (λq:VoteT×Bool=>Value.bool q.2) e.symm,congrArg (λq:VoteT×Bool=>[ah vb (VoteT.cells q.1) 207]) e.symm⟩;refine D0 mixed ?_;refine PD 0 ?_;refine PD 1 ?_;refine PD 2 ?_;refine FD 3 0 jw bf ?_;refine PD 5 ?_;refine PD 6 ?_;refine FD 7 14 jw aR ?_;refine cC [4,8] (by kernel_rfl) rfl (aE rfl ?_ ?_);refine LV 3 eE bf am pJ (y:=v.view) ?_;refine EN (AL 8 ?_);refine LT 3 Y3 (.int .i64 ((iF .i64 v.vowed (c7 who)))) ?_ (hc:=by exact lP _ rfl);refine EN (AL 9 ?_);refine CE w4 (jk v.view (iF .i64 v.vowed (c7 who))) ID ?_;refine EN (PD 10 ?_);refine FD 11 16 jw k0 ?_;refine AL 12 ?_;refine SS 3 k0 (nA _) (k8 _ rfl _) ?_;refine EN (DN ?_)
 exact aF
  SB
  (λ_ s=>s)
  (tl11 (():Unit) trivial)
 refine aE rfl ?_ ?_;refine LT 3 Y3 (.int .i64 ((iF .i64 v.vowed (c7 who)))) ?_ (hc:=by exact lP _ rfl);refine EN (AL 4 ?_);refine LV 3 eE bf am pJ (y:=v.view) ?_;refine EN (AL 9 ?_);refine CE w4 (jk v.view (iF .i64 v.vowed (c7 who))) ID ?_;refine EN (PD 10 ?_);refine FD 11 16 jw k0 ?_;refine AL 12 ?_;refine SS 3 k0 (nA _) (k8 _ rfl _) ?_;refine EN (DN ?_)
 exact aF
  SB
  (λ_ s=>s)
  (tl11 (():Unit) trivial)
 exact bz;refine PD 3 ?_;refine NT 4 ?_;refine NT 5 ?_;refine NT 6 ?_;refine NT 7 ?_;refine NT 8 ?_;refine NT 9 ?_;refine PD 10 ?_;refine DN (ac J8 (CN (qx J7 (ab λ_ J13=>e4 (α:=Unit) (λ_=>True) (λ_u=>[(0,(.pointer (some ⟨vb,0,none⟩))),(10,(.bool false))]) (λ_u=>[ah b9 (ints ch.flat) 61,ah b8 (ints had.flat) 80,ah b7 (ints b.flat) 80,ah vb (VoteT.cells (VoteT.mk v.view v.ballot v.change v.best (iF .i64 v.vowed (c7 who)) v.took (gE v.view (iF .i64 v.vowed (c7 who))))) 207]) (λ_u _=>?_) (λtl13=>?_)))));refine ac J13 (sr λ_ J14=>P2 ?_);refine FA 16 jw k0 ?_;refine LT 3 Y4 (.bool (gE v.view (iF .i64 v.vowed (c7 who)))) ?_ (hc:=by exact l6 _ rfl);refine PS ?_;refine nx J14 (ai (WK [3] (av rfl rfl ?_)));have e:eO v who b had ch=((VoteT.mk v.view v.ballot v.change v.best (iF .i64 v.vowed (c7 who)) v.took (gE v.view (iF .i64 v.vowed (c7 who)))),gE v.view (iF .i64 v.vowed (c7 who))):=by rw[eO,nD,decide_eq_true (show b.flat=v.ballot.flat from Decidable.not_not.1 h21),h29,h14,if_neg (by decide),wc,decide_eq_false (show ¬0<had.round by omega),gK,if_neg (by decide)]
 exact⟨congrArg (λq:VoteT×Bool=>Value.bool q.2) e.symm,congrArg (λq:VoteT×Bool=>[ah vb (VoteT.cells q.1) 207]) e.symm⟩;refine D0 mixed ?_;refine PD 0 ?_;refine PD 1 ?_;refine PD 2 ?_;refine FD 3 0 jw bf ?_;refine PD 5 ?_;refine PD 6 ?_;refine FD 7 14 jw aR ?_;refine cC [4,8] (by kernel_rfl) rfl (aE rfl ?_ ?_);refine LV 3 eE bf am pJ (y:=v.view) ?_;refine EN (AL 8 ?_);refine LT 3 Y3 (.int .i64 ((iF .i64 v.vowed (c7 who)))) ?_ (hc:=by exact lP _ rfl);refine EN (AL 9 ?_);refine CE w4 (jk v.view (iF .i64 v.vowed (c7 who))) ID ?_;refine EN (PD 10 ?_);refine FD 11 16 jw k0 ?_;refine AL 12 ?_;refine SS 3 k0 (nA _) (k8 _ rfl _) ?_;refine EN (DN ?_)
 exact aF
  SB
  (λ_ s=>s)
  (tl13 (():Unit) trivial)
 refine aE rfl ?_ ?_;refine LT 3 Y3 (.int .i64 ((iF .i64 v.vowed (c7 who)))) ?_ (hc:=by exact lP _ rfl);refine EN (AL 4 ?_);refine LV 3 eE bf am pJ (y:=v.view) ?_;refine EN (AL 9 ?_);refine CE w4 (jk v.view (iF .i64 v.vowed (c7 who))) ID ?_;refine EN (PD 10 ?_);refine FD 11 16 jw k0 ?_;refine AL 12 ?_;refine SS 3 k0 (nA _) (k8 _ rfl _) ?_;refine EN (DN ?_)
 exact aF
  SB
  (λ_ s=>s)
  (tl13 (():Unit) trivial)
 exact bz;refine EN (PD 19 ?_);refine PD 20 ?_;refine DN (ac J3 (CY (sr λ_ J15=>PS ?_)));refine nx J15 (ai (ae (WK [3] (av rfl rfl ?_))));have e:eO v who b had ch=(v,false):=by rw[eO,nD,h29,if_pos (by rw[h14,lZ];rfl)]
 exact⟨congrArg (λq:VoteT×Bool=>Value.bool q.2) e.symm,congrArg (λq:VoteT×Bool=>[ah vb (VoteT.cells q.1) 207]) e.symm⟩
theorem DU(vb:Nat)(v:VoteT)(who:Int)(b:BallotT)(hb:WF b.flat)(hvb:WF v.ballot.flat):
 DT 163 #[(.pointer (some ⟨vb,0,none⟩)),(.int .i64 (who)),(.agg (ints b.flat).toArray)] T0 [ah vb (VoteT.cells v) 207] (RI (.bool (gv v who b).2) [ah vb (VoteT.cells (gv v who b).1) 207]):=by
 refine BD 47 Tryz.func163 rfl rfl rfl λw0 F hF=>sr λ_ J1=>XY (ints b.flat) λb5=>?_
 refine PS ?_;refine nx J1 (ab λ_ J2=>ab λ_ J3=>D2 1 0 mixed ?_);refine PD 0 ?_;refine PD 1 ?_;refine FD 2 16 jw k0 ?_;refine LR 3 Y4 (l6 v rfl) ?_;refine oq ?_ ?_<;>intro h10;refine PD 4 ?_;refine PD 5 ?_;refine LY 6 ka cv ap ?_;refine PD 7 ?_;refine PD 8 ?_;refine FD 9 7 jw cv ?_;refine tb 10 rfl (aM (vs:=ints v.ballot.flat) rfl ka rfl cv rfl (λ_ h=>h.2.1) (ap v.ballot) (Ll v 0 rfl (by decide) (whole (ap v.ballot)))) ?_;refine tb 11 rfl (Lp (a:=b.flat) (b:=v.ballot.flat) (m:=6) (c:=2) Mv Ms rfl MY (eY (ap b)) (eY (ap v.ballot)) ⟨iC HD HM (eY (ap b)),iC HD HM (eY (ap v.ballot))⟩ hb hvb rfl rfl rfl) ?_;refine iR ?_ ?_<;>intro h18;refine PD 12 ?_;refine PD 13 ?_;refine NT 14 ?_;refine NT 15 ?_;refine NT 16 ?_;refine NT 17 ?_;refine NT 18 ?_;refine NT 19 ?_;refine NT 20 ?_;refine PD 21 ?_;refine DN (ac J3 (CY (sr λ_ J4=>PS ?_)));refine nx J4 (ai (ae (WK [1] (av rfl rfl ?_))));have e:gv v who b=(v,false):=by rw[gv,nD,decide_eq_false h18,if_pos (by rw[h10];rfl)]
 exact⟨congrArg (λq:VoteT×Bool=>Value.bool q.2) e.symm,congrArg (λq:VoteT×Bool=>[ah vb (VoteT.cells q.1) 207]) e.symm⟩;refine PD 12 ?_;refine PD 13 ?_;refine PD 14 ?_;refine PD 15 ?_;refine FD 16 0 jw bf ?_;refine tb 17 rfl (aM (vs:=ints v.view.flat) rfl eE rfl bf rfl (λ_ h=>h.2.1) (am v.view) (Dr v 0 rfl (by decide) (whole (am v.view)))) ?_;refine PD 18 ?_;refine AL 19 ?_;refine CE p9 (dD v.view who) ID ?_;refine bc ?_ ?_<;>intro h26;have hw:0≤who∧who<5:=by unfold iO cH at h26;simp only[ax,decide_eq_true_eq]at h26;exact h26.1
 refine EN (PD 20 ?_);refine PD 21 ?_;refine DN (ac J3 (CN (qx J2 (ab λ_ J5=>D0 mixed ?_))));refine PD 0 ?_;refine PD 1 ?_;refine FD 2 15 jw aR ?_;refine PD 4 ?_;refine ta 5 rfl (yJ (r:=(c7 who)) rfl rfl rfl (by omega) rfl) ?_;refine AL 3 ?_;refine LU 1 Y3 (VoteT.at_took v rfl) ?_;refine EN (ta 6 rfl (JS (r:=(iF .i64 v.took (c7 who))) rfl rfl rfl rfl) ?_);refine PD 7 ?_;refine FD 8 15 jw aR ?_;refine AL 9 ?_;refine SS 1 aR (nA _) (VoteT.set_took v rfl _) ?_;refine EN (DN (ac J5 (ab λ_ J6=>D1 1 mixed ?_)));refine PD 0 ?_;refine PD 1 ?_;refine FD 2 0 jw bf ?_;refine ta 3 rfl (aM (vs:=ints v.view.flat) rfl eE rfl bf rfl (λ_ h=>h.2.1) (am v.view) (Dr (VoteT.mk v.view v.ballot v.change v.best v.vowed (iF .i64 v.took (c7 who)) v.putting) 0 rfl (by decide) (whole (am v.view)))) ?_;refine PD 4 ?_;refine PD 5 ?_;refine FD 6 15 jw aR ?_;refine LX 7 Y3 (.int .i64 ((iF .i64 v.took (c7 who)))) ?_ (hc:=by exact VoteT.at_took _ rfl);refine AL 8 ?_;refine CE w4 (jk v.view (iF .i64 v.took (c7 who))) ID ?_;refine EN (PD 9 ?_);refine DN (ac J6 (ai (WK [1] (av rfl rfl ?_))));have e:gv v who b=((VoteT.mk v.view v.ballot v.change v.best v.vowed (iF .i64 v.took (c7 who)) v.putting),gE v.view (iF .i64 v.took (c7 who))):=by rw[gv,nD,decide_eq_true (show b.flat=v.ballot.flat from Decidable.not_not.1 h18),h26,h10,if_neg (by decide)]
 exact⟨congrArg (λq:VoteT×Bool=>Value.bool q.2) e.symm,congrArg (λq:VoteT×Bool=>[ah vb (VoteT.cells q.1) 207]) e.symm⟩;refine EN (PD 20 ?_);refine PD 21 ?_;refine DN (ac J3 (CY (sr λ_ J7=>PS ?_)));refine nx J7 (ai (ae (WK [1] (av rfl rfl ?_))));have e:gv v who b=(v,false):=by rw[gv,nD,h26,if_pos (by rw[h10,lZ];rfl)]
 exact⟨congrArg (λq:VoteT×Bool=>Value.bool q.2) e.symm,congrArg (λq:VoteT×Bool=>[ah vb (VoteT.cells q.1) 207]) e.symm⟩;refine PD 4 ?_;refine PD 5 ?_;refine NT 6 ?_;refine NT 7 ?_;refine NT 8 ?_;refine NT 9 ?_;refine NT 10 ?_;refine NT 11 ?_;refine PD 12 ?_;refine PD 13 ?_;refine NT 14 ?_;refine NT 15 ?_;refine NT 16 ?_;refine NT 17 ?_;refine NT 18 ?_;refine NT 19 ?_;refine NT 20 ?_;refine PD 21 ?_;refine DN (ac J3 (CY (sr λ_ J8=>PS ?_)));refine nx J8 (ai (ae (WK [1] (av rfl rfl ?_))));have e:gv v who b=(v,false):=by rw[gv,h10,if_pos (by rfl)]
 exact⟨congrArg (λq:VoteT×Bool=>Value.bool q.2) e.symm,congrArg (λq:VoteT×Bool=>[ah vb (VoteT.cells q.1) 207]) e.symm⟩
theorem A3{δ:Type}(V:Env δ)(r vb:Nat)(s:MS δ)(vt:VoteT)(hv:s.vote=some vt)[OkR V.toDk s]:
 DT 164 #[(.pointer (some ⟨r,0,none⟩)),(.iface V.T V.ov)] T0 [vQ V r s (.pointer (some ⟨vb,0,none⟩)),ah vb (VoteT.cells vt) 207] (dh (λ_ H=>H=[cF V r (lu V.toDk s vt.change)])):=by
 refine BD 32 Tryz.func164 rfl rfl rfl λw0 F hF=>ab λ_ J1=>e4 (α:=(Nat)) (λ_=>True) (λb4=>[(0,(.pointer (some ⟨r,0,none⟩))),(1,(.iface V.T V.ov)),(4,(.pointer (some ⟨b4,0,none⟩))),(5,(.int .i64 ((dL s.view vt.change).2)))]) (λb4=>[ah b4 (ints ((dL s.view vt.change).1).flat) 32,ah vb (VoteT.cells vt) 207,vQ V r s (.pointer (some ⟨vb,0,none⟩))]) (λb4 _=>?_) (λtl1=>?_)
 refine ac J1 (ab λ_ J2=>sr λ_ J3=>ck (H':=cF V r s::[ah b4 (ints ((dL s.view vt.change).1).flat) 32]) (λ_ q=>oa hv (aB [2,1] rfl q)) (P2 ?_));refine ao ?_ ?_<;>intro h20;refine PS ?_
 iterate 5 refine UT ?_
 refine PS ?_;refine nx J3 (CY (ai (ae (WK [0] (dI rfl ?_)))));exact MQ (by rw[lu,if_pos h20]);refine P3 ?_;refine LW 1 eE bf am ?_;refine CE I9 (uP V r s ((dL s.view vt.change).1)) ID ?_;refine bc ?_ ?_<;>intro h25;refine PS ?_;refine PS ?_;refine nx J3 (CN (qx J2 (ad (P2 ?_))));refine LW 1 eE bf am ?_;refine CZ MF (mM V r (ii V.toDk s ((dL s.view vt.change).1)) ((dL s.view vt.change).1)) ID λvR=>?_
 refine aq (WK [0] (bp rfl ?_));exact MQ (by rw[lu,if_neg h20,h25,if_pos rfl]);refine PS ?_;refine PS ?_;refine nx J3 (CY (ai (ae (WK [0] (dI rfl ?_)))));exact MQ (by rw[lu,if_neg h20,h25,if_neg (by decide)]);refine D1 1 mixed ?_;refine PD 0 ?_;refine PD 1 ?_;refine FD 2 2 c9 bf ?_;refine PD 4 ?_;refine PD 5 ?_;refine FD 6 1067 c9 mP ?_;refine cC [3,7,13] (by kernel_rfl) rfl (aE rfl ?_ ?_);refine LZ 0 eE bf am s.view ?_ (hc:=by exact λ_=>cM _);refine EN (cC [7,13] (by kernel_rfl) rfl (aE rfl ?_ ?_));refine LG 0 px (.pointer (some ⟨vb,0,none⟩)) ?_ (hc:=by exact λa_=>(bX _ rfl));refine EN (cC [8,13] (by kernel_rfl) rfl (aE rfl ?_ ?_));refine CE tW (c8 vb vt) (SM [1]) ?_;refine EN (cC [9,13] (by kernel_rfl) rfl (aE rfl ?_ ?_));refine CE mX (dx s.view vt.change OkVw.rng) ID ?_;refine EN (PD 10 ?_);refine PD 11 ?_;refine PD 12 ?_;refine AL 13 ?_;refine XZ se (ints ViewT.zero.flat) λb4=>?_
 refine EN (AL 14 ?_);refine SW 0 bf am ?_;refine EN (PD 15 ?_);refine DN ?_
 exact aF
  SB
  (λ_ s=>s)
  (tl1 ((b4):(Nat)) trivial)
 refine aE rfl ?_ ?_;refine XZ se (ints ViewT.zero.flat) λb4=>?_
 refine EN (AL 9 ?_);refine CE mX (dx s.view vt.change OkVw.rng) ID ?_;refine EN (PD 10 ?_);refine PD 11 ?_;refine PD 12 ?_;refine AL 14 ?_;refine SW 0 bf am ?_;refine EN (PD 15 ?_);refine DN ?_
 exact aF
  SB
  (λ_ s=>s)
  (tl1 ((b4):(Nat)) trivial)
 exact bz;refine aE rfl ?_ ?_;refine XZ se (ints ViewT.zero.flat) λb4=>?_
 refine EN (AL 8 ?_);refine CE tW (c8 vb vt) (SM [2]) ?_;refine EN (AL 9 ?_);refine CE mX (dx s.view vt.change OkVw.rng) ID ?_;refine EN (PD 10 ?_);refine PD 11 ?_;refine PD 12 ?_;refine AL 14 ?_;refine SW 1 bf am ?_;refine EN (PD 15 ?_);refine DN ?_
 exact aF
  SB
  (λ_ s=>ak [1,0,0] rfl s)
  (tl1 ((b4):(Nat)) trivial)
 exact bz;refine aE rfl ?_ ?_;refine XZ se (ints ViewT.zero.flat) λb4=>?_
 refine EN (AL 7 ?_);refine LG 1 px (.pointer (some ⟨vb,0,none⟩)) ?_ (hc:=by exact λa_=>(bX _ rfl));refine EN (AL 8 ?_);refine CE tW (c8 vb vt) (SM [2]) ?_;refine EN (AL 9 ?_);refine CE mX (dx s.view vt.change OkVw.rng) ID ?_;refine EN (PD 10 ?_);refine PD 11 ?_;refine PD 12 ?_;refine AL 14 ?_;refine SW 1 bf am ?_;refine EN (PD 15 ?_);refine DN ?_
 exact aF
  SB
  (λ_ s=>ak [1,0,0] rfl s)
  (tl1 ((b4):(Nat)) trivial)
 exact bz;refine aE rfl ?_ ?_;refine LG 0 px (.pointer (some ⟨vb,0,none⟩)) ?_ (hc:=by exact λa_=>(bX _ rfl));refine EN (cC [3,8,13] (by kernel_rfl) rfl (aE rfl ?_ ?_));refine LZ 0 eE bf am s.view ?_ (hc:=by exact λ_=>cM _);refine EN (cC [8,13] (by kernel_rfl) rfl (aE rfl ?_ ?_));refine CE tW (c8 vb vt) (SM [1]) ?_;refine EN (cC [9,13] (by kernel_rfl) rfl (aE rfl ?_ ?_));refine CE mX (dx s.view vt.change OkVw.rng) ID ?_;refine EN (PD 10 ?_);refine PD 11 ?_;refine PD 12 ?_;refine AL 13 ?_;refine XZ se (ints ViewT.zero.flat) λb4=>?_
 refine EN (AL 14 ?_);refine SW 0 bf am ?_;refine EN (PD 15 ?_);refine DN ?_
 exact aF
  SB
  (λ_ s=>s)
  (tl1 ((b4):(Nat)) trivial)
 refine aE rfl ?_ ?_;refine XZ se (ints ViewT.zero.flat) λb4=>?_
 refine EN (AL 9 ?_);refine CE mX (dx s.view vt.change OkVw.rng) ID ?_;refine EN (PD 10 ?_);refine PD 11 ?_;refine PD 12 ?_;refine AL 14 ?_;refine SW 0 bf am ?_;refine EN (PD 15 ?_);refine DN ?_
 exact aF
  SB
  (λ_ s=>s)
  (tl1 ((b4):(Nat)) trivial)
 exact bz;refine aE rfl ?_ ?_;refine XZ se (ints ViewT.zero.flat) λb4=>?_
 refine EN (AL 8 ?_);refine CE tW (c8 vb vt) (SM [2]) ?_;refine EN (AL 9 ?_);refine CE mX (dx s.view vt.change OkVw.rng) ID ?_;refine EN (PD 10 ?_);refine PD 11 ?_;refine PD 12 ?_;refine AL 14 ?_;refine SW 1 bf am ?_;refine EN (PD 15 ?_);refine DN ?_
 exact aF
  SB
  (λ_ s=>ak [1,0,0] rfl s)
  (tl1 ((b4):(Nat)) trivial)
 exact bz;refine aE rfl ?_ ?_;refine CE tW (c8 vb vt) (SM [1]) ?_;refine EN (cC [3,13] (by kernel_rfl) rfl (aE rfl ?_ ?_));refine LZ 1 eE bf am s.view ?_ (hc:=by exact λ_=>cM _);refine EN (cC [9,13] (by kernel_rfl) rfl (aE rfl ?_ ?_));refine CE mX (dx s.view vt.change OkVw.rng) ID ?_;refine EN (PD 10 ?_);refine PD 11 ?_;refine PD 12 ?_;refine AL 13 ?_;refine XZ se (ints ViewT.zero.flat) λb4=>?_
 refine EN (AL 14 ?_);refine SW 0 bf am ?_;refine EN (PD 15 ?_);refine DN ?_
 exact aF
  SB
  (λ_ s=>s)
  (tl1 ((b4):(Nat)) trivial)
 refine aE rfl ?_ ?_;refine XZ se (ints ViewT.zero.flat) λb4=>?_
 refine EN (AL 9 ?_);refine CE mX (dx s.view vt.change OkVw.rng) ID ?_;refine EN (PD 10 ?_);refine PD 11 ?_;refine PD 12 ?_;refine AL 14 ?_;refine SW 0 bf am ?_;refine EN (PD 15 ?_);refine DN ?_
 exact aF
  SB
  (λ_ s=>s)
  (tl1 ((b4):(Nat)) trivial)
 exact bz;refine aE rfl ?_ ?_;refine XZ se (ints ViewT.zero.flat) λb4=>?_
 refine EN (AL 3 ?_);refine LZ 2 eE bf am s.view ?_ (hc:=by exact λ_=>cM _);refine EN (AL 9 ?_);refine CE mX (dx s.view vt.change OkVw.rng) ID ?_;refine EN (PD 10 ?_);refine PD 11 ?_;refine PD 12 ?_;refine AL 14 ?_;refine SW 0 bf am ?_;refine EN (PD 15 ?_);refine DN ?_
 exact aF
  SB
  (λ_ s=>s)
  (tl1 ((b4):(Nat)) trivial)
 exact bz;refine aE rfl ?_ ?_;refine XZ se (ints ViewT.zero.flat) λb4=>?_
 refine EN (cC [3,8] (by kernel_rfl) rfl (aE rfl ?_ ?_));refine LZ 1 eE bf am s.view ?_ (hc:=by exact λ_=>cM _);refine EN (AL 8 ?_);refine CE tW (c8 vb vt) (SM [2]) ?_;refine EN (AL 9 ?_);refine CE mX (dx s.view vt.change OkVw.rng) ID ?_;refine EN (PD 10 ?_);refine PD 11 ?_;refine PD 12 ?_;refine AL 14 ?_;refine SW 1 bf am ?_;refine EN (PD 15 ?_);refine DN ?_
 exact aF
  SB
  (λ_ s=>ak [1,0,0] rfl s)
  (tl1 ((b4):(Nat)) trivial)
 refine aE rfl ?_ ?_;refine CE tW (c8 vb vt) (SM [2]) ?_;refine EN (AL 3 ?_);refine LZ 2 eE bf am s.view ?_ (hc:=by exact λ_=>cM _);refine EN (AL 9 ?_);refine CE mX (dx s.view vt.change OkVw.rng) ID ?_;refine EN (PD 10 ?_);refine PD 11 ?_;refine PD 12 ?_;refine AL 14 ?_;refine SW 1 bf am ?_;refine EN (PD 15 ?_);refine DN ?_
 exact aF
  SB
  (λ_ s=>ak [1,0,0] rfl s)
  (tl1 ((b4):(Nat)) trivial)
 exact bz;exact bz;refine aE rfl ?_ ?_;refine XZ se (ints ViewT.zero.flat) λb4=>?_
 refine EN (cC [3,7] (by kernel_rfl) rfl (aE rfl ?_ ?_));refine LZ 1 eE bf am s.view ?_ (hc:=by exact λ_=>cM _);refine EN (AL 7 ?_);refine LG 1 px (.pointer (some ⟨vb,0,none⟩)) ?_ (hc:=by exact λa_=>(bX _ rfl));refine EN (AL 8 ?_);refine CE tW (c8 vb vt) (SM [2]) ?_;refine EN (AL 9 ?_);refine CE mX (dx s.view vt.change OkVw.rng) ID ?_;refine EN (PD 10 ?_);refine PD 11 ?_;refine PD 12 ?_;refine AL 14 ?_;refine SW 1 bf am ?_;refine EN (PD 15 ?_);refine DN ?_
 exact aF
  SB
  (λ_ s=>ak [1,0,0] rfl s)
  (tl1 ((b4):(Nat)) trivial)
 refine aE rfl ?_ ?_;refine LG 1 px (.pointer (some ⟨vb,0,none⟩)) ?_ (hc:=by exact λa_=>(bX _ rfl));refine EN (cC [3,8] (by kernel_rfl) rfl (aE rfl ?_ ?_));refine LZ 1 eE bf am s.view ?_ (hc:=by exact λ_=>cM _);refine EN (AL 8 ?_);refine CE tW (c8 vb vt) (SM [2]) ?_;refine EN (AL 9 ?_);refine CE mX (dx s.view vt.change OkVw.rng) ID ?_;refine EN (PD 10 ?_);refine PD 11 ?_;refine PD 12 ?_;refine AL 14 ?_;refine SW 1 bf am ?_;refine EN (PD 15 ?_);refine DN ?_
 exact aF
  SB
  (λ_ s=>ak [1,0,0] rfl s)
  (tl1 ((b4):(Nat)) trivial)
 refine aE rfl ?_ ?_;refine CE tW (c8 vb vt) (SM [2]) ?_;refine EN (AL 3 ?_);refine LZ 2 eE bf am s.view ?_ (hc:=by exact λ_=>cM _);refine EN (AL 9 ?_);refine CE mX (dx s.view vt.change OkVw.rng) ID ?_;refine EN (PD 10 ?_);refine PD 11 ?_;refine PD 12 ?_;refine AL 14 ?_;refine SW 1 bf am ?_;refine EN (PD 15 ?_);refine DN ?_
 exact aF
  SB
  (λ_ s=>ak [1,0,0] rfl s)
  (tl1 ((b4):(Nat)) trivial)
 exact bz;exact bz;exact bz
theorem A2{δ:Type}(V:Env δ)(r:Nat)(s:MS δ)(vt:VoteT)(hv:s.vote=some vt)[OkR V.toDk s]:DT 164 #[.pointer (some ⟨r,0,none⟩), .iface V.T V.ov] T0 [cF V r s] (dh (λ_ H=>H=[cF V r (lu V.toDk s vt.change)])):=
 Leg.Does.ex (λ_ q=>mZ hv q) λvb=>A3 V r vb s vt hv
theorem oc{δ:Type}{V:Env δ}{r:Nat}{s:MS δ}{H:List HP}{h:Hl}(hv:s.vote=none)(q:bD (vQ V r s (.pointer none)::H) h):bD (cF V r s::H) h:=by
 have q2:=Cp q
 rwa [show({s with vote:=none}:MS δ)=s by cases s;simp_all]at q2
theorem kG{δ:Type}(V:Env δ)(r:Nat)(s:MS δ)(f:MS δ→MS δ)(from':Int)(m:MsgT)[OkR V.toDk s][OkMg m](hfe:from'=s.id→m.epoch=s.view.epoch)(h3:m.kind=3→m.epoch=s.view.epoch→TK V r 160 (du s (max s.round m.ballot.round)) from' m (f (du s (max s.round m.ballot.round))))(h5:m.kind=5→m.epoch=s.view.epoch→TK V r 161 (du s (max s.round m.ballot.round)) from' m (f (du s (max s.round m.ballot.round))))(hn:m.kind≠3∧m.kind≠5→f (du s (max s.round m.ballot.round))=(du s (max s.round m.ballot.round)))(hv:m.kind=4∨m.kind=6→s.vote=none):
 DT 126 #[(.pointer (some ⟨r,0,none⟩)),(.iface V.T V.ov),(.int .i64 (from')),(.agg (ints m.flat).toArray)] T0 [cF V r s] (dh (λ_ H=>H=[cF V r (eP V.toDk f s from' m)])):=by
 refine BD 124 Tryz.func126 rfl rfl rfl λw0 F hF=>sr λ_ J1=>XY (ints m.flat) λb7=>?_
 refine nx J1 (ab λ_ J2=>ab λ_ J3=>DC mixed (BL 0) (cO 1 rfl rfl) ?_);refine FD 0 177 bd aR ?_;refine LR 1 Y3 (eH m rfl) ?_;refine PD 2 ?_;refine PD 3 ?_;refine FD 4 2 c9 bf ?_;refine FD 5 2 eE aR ?_;refine ta 6 rfl (de (v:=(.int .i64 (s.view.epoch))) rfl Y3 rfl rfl (λ_ h=>h.2.2.1) (λa_=>(cg (s.rep a_) 0 rfl (by decide) (bb _ rfl)))) ?_;refine PD 7 ?_;refine iR ?_ ?_<;>intro h15;refine DN (ac J3 (CY (ab λ_ J4=>sr λ_ J5=>FA 0 bd aR ?_)));refine LU 0 Y3 (eR m rfl) ?_;refine PS ?_;refine ao ?_ ?_<;>intro h18;refine PS ?_
 iterate 3 refine UT ?_
 refine PS ?_;refine nx J5 (CY (ad ?_))
 iterate 5 refine PS ?_
 refine FA 2 c9 bf ?_;refine LZ 1 eE bf am s.view ?_ (hc:=by exact λ_=>cM _);refine tp (ll MsgT.zero (MsgT.mk 7 0 RowT.zero 0 0 BallotT.zero BallotT.zero ChangeT.zero s.view) [(0,[Value.int .i64 7]),(8,ints s.view.flat)] bd bq (g:=MsgT.sg)) ?_;refine CZ je (js V r s from' (j5 s.view) (λe=>absurd (hfe e) (by omega))) (SM [1]) λvR=>?_
 refine nx J4 (ai (ae (WK [0] (dI rfl ?_))));exact congrArg (λq=>[cF V r q]) (show(iM V.toDk s ([SaidT.mk from' (j5 s.view)]))=eP V.toDk f s from' m by rw[eP,if_pos h15,if_pos (.inl h18)];rfl);refine PS ?_;refine FA 0 bd aR ?_;refine LU 0 Y3 (eR m rfl) ?_;refine PS ?_;refine ao ?_ ?_<;>intro h22;refine PS ?_;refine nx J5 (CY (ad ?_))
 iterate 5 refine PS ?_
 refine FA 2 c9 bf ?_;refine LZ 1 eE bf am s.view ?_ (hc:=by exact λ_=>cM _);refine tp (ll MsgT.zero (MsgT.mk 7 0 RowT.zero 0 0 BallotT.zero BallotT.zero ChangeT.zero s.view) [(0,[Value.int .i64 7]),(8,ints s.view.flat)] bd bq (g:=MsgT.sg)) ?_;refine CZ je (js V r s from' (j5 s.view) (λe=>absurd (hfe e) (by omega))) (SM [1]) λvR=>?_
 refine nx J4 (ai (ae (WK [0] (dI rfl ?_))));exact congrArg (λq=>[cF V r q]) (show(iM V.toDk s ([SaidT.mk from' (j5 s.view)]))=eP V.toDk f s from' m by rw[eP,if_pos h15,if_pos (.inr h22)];rfl);refine PS ?_;refine nx J5 (CN (qx J4 (ai (ae (WK [1] (dI rfl ?_))))));exact congrArg (λq=>[cF V r q]) (show s=eP V.toDk f s from' m by rw[eP,if_pos h15,if_neg (by omega)]);refine DN (ac J3 (CN (qx J2 (ab λ_ J6=>ab λ_ J7=>DC mixed (BL 0) (cO 1 rfl rfl) ?_))));refine FD 0 177 bd aR ?_;refine LR 1 Y3 (eH m rfl) ?_;refine PD 2 ?_;refine PD 3 ?_;refine FD 4 2 c9 bf ?_;refine FD 5 2 eE aR ?_;refine ta 6 rfl (de (v:=(.int .i64 (s.view.epoch))) rfl Y3 rfl rfl (λ_ h=>h.2.2.1) (λa_=>(cg (s.rep a_) 0 rfl (by decide) (bb _ rfl)))) ?_;refine PD 7 ?_;refine iR ?_ ?_<;>intro h40;refine PD 8 ?_;refine NT 9 ?_;refine NT 10 ?_;refine NT 11 ?_;refine NT 12 ?_;refine NT 13 ?_;refine NT 14 ?_;refine NT 15 ?_;refine NT 16 ?_;refine NT 17 ?_;refine NT 18 ?_;refine PD 19 ?_;refine DN (ac J7 (CY (ai (ae (WK [1] (dI rfl ?_))))));exact congrArg (λq=>[cF V r q]) (show s=eP V.toDk f s from' m by rw[eP,if_neg h15,if_pos (.inl (by omega))]);refine PD 8 ?_;refine PD 9 ?_;refine PD 10 ?_;refine FD 11 2 c9 bf ?_;refine tb 12 rfl (fW (vs:=ints s.view.flat) rfl eE rfl bf rfl (λ_ h=>h.2.2.1) (am s.view) (λa_=>(fS (s.rep a_) 0 rfl (by decide) (whole (am ((s.rep a_).view)))))) ?_;refine PD 13 ?_;refine PD 14 ?_;refine FD 15 0 c9 aR ?_
 refine tb 16 rfl (de (v:=(.int .i64 (s.id))) rfl Y3 rfl rfl (λ_ h=>h.2.2.1) (λa_=>(cD _ rfl))) ?_;refine AL 17 ?_;refine CE p9 (dD s.view s.id) ID ?_;refine bc ?_ ?_<;>intro h50;refine EN (PD 18 ?_);refine PD 19 ?_;refine DN (ac J7 (CN (qx J6 (ab λ_ J8=>D1 0 mixed ?_))));refine PD 0 ?_;refine PD 1 ?_;refine PD 2 ?_;refine FD 3 1066 c9 aR ?_;refine FD 5 178 bd cv ?_;refine FD 6 178 ka aR ?_;refine LX 7 Y3 (.int .i64 (m.ballot.round)) ?_ (hc:=by exact MsgT.pt_ballot m 0 rfl (by decide) (e8 m.ballot rfl));refine AL 4 ?_;refine LG 1 Y3 (.int .i64 (s.round)) ?_ (hc:=by exact λa_=>(vA _ rfl));refine EN (ta 8 rfl (yK rfl rfl rfl) ?_);refine PD 9 ?_;refine FD 10 1066 c9 aR ?_;refine AL 11 ?_;refine SK 1 aR (λ_=>cN _) ?_ (hc:=by exact λa_=>(lS _ rfl _));refine EN (DN (ac J8 (sr λ_ J9=>FA 0 bd aR ?_)));refine LU 0 Y3 (eR m rfl) ?_;refine nx J9 (au (sr λ_ J10=>PS ?_));refine ao ?_ ?_<;>intro h67;refine PS ?_;refine nx J10 (CY (ad (P3 ?_)));refine LW 0 bd cd aG ?_;refine CZ N5 ((h3 (by omega) (by omega))) (SM [1]) λvR=>?_
 refine aq (ag (WK [0] (bp rfl ?_)));exact congrArg (λq=>[cF V r q]) (show(f (du s (max s.round m.ballot.round)))=eP V.toDk f s from' m by rw[eP,if_neg h15,if_neg (λh=>h.elim (λh=>absurd h (by omega)) (λh=>by rw[h50]at h;cases h))]);refine PS ?_;refine nx J10 (CN (sr λ_ J11=>PS ?_));refine ao ?_ ?_<;>intro h74;refine PS ?_;refine nx J11 (CY (ad (P3 ?_)));refine LW 0 bd cd aG ?_;refine CZ N4 ((h5 (by omega) (by omega))) (SM [1]) λvR=>?_
 refine aq (ag (WK [0] (bp rfl ?_)));exact congrArg (λq=>[cF V r q]) (show(f (du s (max s.round m.ballot.round)))=eP V.toDk f s from' m by rw[eP,if_neg h15,if_neg (λh=>h.elim (λh=>absurd h (by omega)) (λh=>by rw[h50]at h;cases h))]);refine PS ?_;refine nx J11 (CN (sr λ_ J12=>PS ?_));refine ao ?_ ?_<;>intro h81;refine ck (H':=vQ V r (du s (max s.round m.ballot.round)) (.pointer none)::[ah b7 (ints m.flat) 163]) (λ_ q=>sS (hv (by omega)) (aB [1] rfl q)) (PS ?_);refine nx J12 (CY (ab λ_ J13=>DC mixed (cO 0 rfl rfl) (BL 1) ?_));refine PD 0 ?_;refine PD 1 ?_;refine FD 2 1067 c9 mP ?_;refine ta 3 rfl (de (v:=(.pointer none)) rfl px rfl rfl (λ_ h=>h.2.1) (λa_=>(bX _ rfl))) ?_;refine ta 4 rfl (iU rfl px rfl rfl) ?_;refine PD 5 ?_;refine NT 6 ?_;refine NT 7 ?_;refine NT 8 ?_;refine NT 9 ?_;refine NT 10 ?_;refine NT 11 ?_;refine NT 12 ?_;refine NT 13 ?_;refine NT 14 ?_;refine NT 15 ?_;refine NT 16 ?_;refine NT 17 ?_;refine PD 18 ?_;refine DN (ac J13 (CN (aT (ag (aF (H':=[cF V r (du s (max s.round m.ballot.round))]) (dd _) (λ_ q=>oc (hv (by omega)) (ak [0] rfl q)) (bp rfl ?_))))));exact congrArg (λq=>[cF V r q]) (show(du s (max s.round m.ballot.round))=eP V.toDk f s from' m by rw[eP,if_neg h15,if_neg (λh=>h.elim (λh=>absurd h (by omega)) (λh=>by rw[h50]at h;cases h)),hn (by omega)]);refine PS ?_;refine nx J12 (CN (sr λ_ J14=>PS ?_));refine ao ?_ ?_<;>intro h105
 refine ck (H':=vQ V r (du s (max s.round m.ballot.round)) (.pointer none)::[ah b7 (ints m.flat) 163]) (λ_ q=>sS (hv (by omega)) (aB [1] rfl q)) (PS ?_);refine nx J14 (CY (ab λ_ J15=>DC mixed (cO 0 rfl rfl) (BL 1) ?_));refine PD 0 ?_;refine PD 1 ?_;refine FD 2 1067 c9 mP ?_;refine ta 3 rfl (de (v:=(.pointer none)) rfl px rfl rfl (λ_ h=>h.2.1) (λa_=>(bX _ rfl))) ?_;refine ta 4 rfl (iU rfl px rfl rfl) ?_;refine PD 5 ?_;refine NT 6 ?_;refine NT 7 ?_;refine NT 8 ?_;refine NT 9 ?_;refine NT 10 ?_;refine NT 11 ?_;refine NT 12 ?_;refine NT 13 ?_;refine PD 14 ?_;refine DN (ac J15 (CN (aT (ag (aF (H':=[cF V r (du s (max s.round m.ballot.round))]) (dd _) (λ_ q=>oc (hv (by omega)) (ak [0] rfl q)) (bp rfl ?_))))));exact congrArg (λq=>[cF V r q]) (show(du s (max s.round m.ballot.round))=eP V.toDk f s from' m by rw[eP,if_neg h15,if_neg (λh=>h.elim (λh=>absurd h (by omega)) (λh=>by rw[h50]at h;cases h)),hn (by omega)]);refine PS ?_;refine nx J14 (CN (aT (ag (WK [1] (bp rfl ?_)))));exact congrArg (λq=>[cF V r q]) (show(du s (max s.round m.ballot.round))=eP V.toDk f s from' m by rw[eP,if_neg h15,if_neg (λh=>h.elim (λh=>absurd h (by omega)) (λh=>by rw[h50]at h;cases h)),hn (by omega)]);refine EN (PD 18 ?_);refine PD 19 ?_;refine DN (ac J7 (CY (ai (ae (WK [1] (dI rfl ?_))))));exact congrArg (λq=>[cF V r q]) (show s=eP V.toDk f s from' m by rw[eP,if_neg h15,if_pos (.inr h50)])
theorem zZ(v:VoteT)(w:Int)(b:BallotT):(gv v w b).1.change=v.change:=by unfold gv;split<;>rfl
theorem pT{δ:Type}(V:Env δ)(r:Nat)(s:MS δ)(vt:VoteT)(from':Int)(m:MsgT)[OkR V.toDk s][OkMg m](hfe:from'=s.id→m.epoch=s.view.epoch)(hk:m.kind=4∨m.kind=6)(hv:s.vote=some vt)(hp:m.kind=4→(eO vt from' m.ballot m.had m.change).2=true→DT 92 #[.pointer (some ⟨r,0,none⟩), .iface V.T V.ov] T0 [cF V r (lw (du s (max s.round m.ballot.round)) (eO vt from' m.ballot m.had m.change).1)] (dh (λ_ H=>H=[cF V r (kQ V.toDk (lw (du s (max s.round m.ballot.round)) (eO vt from' m.ballot m.had m.change).1) (eO vt from' m.ballot m.had m.change).1)]))):
    DT 126 #[(.pointer (some ⟨r,0,none⟩)),(.iface V.T V.ov),(.int .i64 (from')),(.agg (ints m.flat).toArray)] T0 [cF V r s] (dh (λ_ H=>H=[cF V r (eP V.toDk (λs_=>if m.kind=4 then pP V.toDk from' m s_ else lx V.toDk from' m s_) s from' m)])):=by
 refine BD 124 Tryz.func126 rfl rfl rfl λw0 F hF=>?_
 have hov:OkVt vt:=OkR.vote vt hv;refine sr λ_ J1=>XY (ints m.flat) λb7=>?_
 refine nx J1 (ab λ_ J2=>ab λ_ J3=>DC mixed (BL 0) (cO 1 rfl rfl) ?_);refine FD 0 177 bd aR ?_;refine LR 1 Y3 (eH m rfl) ?_;refine PD 2 ?_;refine PD 3 ?_;refine FD 4 2 c9 bf ?_;refine FD 5 2 eE aR ?_;refine ta 6 rfl (de (v:=(.int .i64 (s.view.epoch))) rfl Y3 rfl rfl (λ_ h=>h.2.2.1) (λa_=>(cg (s.rep a_) 0 rfl (by decide) (bb _ rfl)))) ?_;refine PD 7 ?_;refine iR ?_ ?_<;>intro h15;refine DN (ac J3 (CY (ab λ_ J4=>sr λ_ J5=>FA 0 bd aR ?_)));refine LU 0 Y3 (eR m rfl) ?_;refine PS ?_;refine ao ?_ ?_<;>intro h18;refine PS ?_
 iterate 3 refine UT ?_
 refine PS ?_;refine nx J5 (CY (ad ?_))
 iterate 5 refine PS ?_
 refine FA 2 c9 bf ?_;refine LZ 1 eE bf am s.view ?_ (hc:=by exact λ_=>cM _);refine tp (ll MsgT.zero (MsgT.mk 7 0 RowT.zero 0 0 BallotT.zero BallotT.zero ChangeT.zero s.view) [(0,[Value.int .i64 7]),(8,ints s.view.flat)] bd bq (g:=MsgT.sg)) ?_;refine CZ je (js V r s from' (j5 s.view) (λe=>absurd (hfe e) (by omega))) (SM [1]) λvR=>?_
 refine nx J4 (ai (ae (WK [0] (dI rfl ?_))));exact MQ (by rw[eP,if_pos h15,if_pos (.inl h18)];rfl);refine PS ?_;refine FA 0 bd aR ?_;refine LU 0 Y3 (eR m rfl) ?_;refine PS ?_;refine ao ?_ ?_<;>intro h22;refine PS ?_;refine nx J5 (CY (ad ?_))
 iterate 5 refine PS ?_
 refine FA 2 c9 bf ?_;refine LZ 1 eE bf am s.view ?_ (hc:=by exact λ_=>cM _);refine tp (ll MsgT.zero (MsgT.mk 7 0 RowT.zero 0 0 BallotT.zero BallotT.zero ChangeT.zero s.view) [(0,[Value.int .i64 7]),(8,ints s.view.flat)] bd bq (g:=MsgT.sg)) ?_;refine CZ je (js V r s from' (j5 s.view) (λe=>absurd (hfe e) (by omega))) (SM [1]) λvR=>?_
 refine nx J4 (ai (ae (WK [0] (dI rfl ?_))));exact MQ (by rw[eP,if_pos h15,if_pos (.inr h22)];rfl);refine PS ?_;refine nx J5 (CN (qx J4 (ai (ae (WK [1] (dI rfl ?_))))));exact MQ (by rw[eP,if_pos h15,if_neg (by omega)]);refine DN (ac J3 (CN (qx J2 (ab λ_ J6=>ab λ_ J7=>DC mixed (BL 0) (cO 1 rfl rfl) ?_))));refine FD 0 177 bd aR ?_;refine LR 1 Y3 (eH m rfl) ?_;refine PD 2 ?_;refine PD 3 ?_;refine FD 4 2 c9 bf ?_;refine FD 5 2 eE aR ?_;refine ta 6 rfl (de (v:=(.int .i64 (s.view.epoch))) rfl Y3 rfl rfl (λ_ h=>h.2.2.1) (λa_=>(cg (s.rep a_) 0 rfl (by decide) (bb _ rfl)))) ?_;refine PD 7 ?_;refine iR ?_ ?_<;>intro h40;refine PD 8 ?_;refine NT 9 ?_;refine NT 10 ?_;refine NT 11 ?_;refine NT 12 ?_;refine NT 13 ?_;refine NT 14 ?_;refine NT 15 ?_;refine NT 16 ?_;refine NT 17 ?_;refine NT 18 ?_;refine PD 19 ?_;refine DN (ac J7 (CY (ai (ae (WK [1] (dI rfl ?_))))));exact MQ (by rw[eP,if_neg h15,if_pos (.inl (by omega))]);refine PD 8 ?_;refine PD 9 ?_;refine PD 10 ?_;refine FD 11 2 c9 bf ?_;refine tb 12 rfl (fW (vs:=ints s.view.flat) rfl eE rfl bf rfl (λ_ h=>h.2.2.1) (am s.view) (λa_=>(fS (s.rep a_) 0 rfl (by decide) (whole (am ((s.rep a_).view)))))) ?_;refine PD 13 ?_;refine PD 14 ?_;refine FD 15 0 c9 aR ?_;refine tb 16 rfl (de (v:=(.int .i64 (s.id))) rfl Y3 rfl rfl (λ_ h=>h.2.2.1) (λa_=>(cD _ rfl))) ?_;refine AL 17 ?_;refine CE p9 (dD s.view s.id) ID ?_;refine bc ?_ ?_<;>intro h50;refine EN (PD 18 ?_);refine PD 19 ?_
 refine DN (ac J7 (CN (qx J6 (ab λ_ J8=>D1 0 mixed ?_))));refine PD 0 ?_;refine PD 1 ?_;refine PD 2 ?_;refine FD 3 1066 c9 aR ?_;refine FD 5 178 bd cv ?_;refine FD 6 178 ka aR ?_;refine LX 7 Y3 (.int .i64 (m.ballot.round)) ?_ (hc:=by exact MsgT.pt_ballot m 0 rfl (by decide) (e8 m.ballot rfl));refine AL 4 ?_;refine LG 1 Y3 (.int .i64 (s.round)) ?_ (hc:=by exact λa_=>(vA _ rfl));refine EN (ta 8 rfl (yK rfl rfl rfl) ?_);refine PD 9 ?_;refine FD 10 1066 c9 aR ?_;refine AL 11 ?_;refine SK 1 aR (λ_=>cN _) ?_ (hc:=by exact λa_=>(lS _ rfl _));refine EN (DN (ac J8 (sr λ_ J9=>FA 0 bd aR ?_)));refine LU 0 Y3 (eR m rfl) ?_;refine nx J9 (au (sr λ_ J10=>PS ?_));refine ao ?_ ?_<;>intro h67
 · exact absurd h67 (by omega)
 refine PS ?_;refine nx J10 (CN (sr λ_ J11=>PS ?_));refine ao ?_ ?_<;>intro h74
 · exact absurd h74 (by omega)
 refine PS ?_;refine nx J11 (CN (sr λ_ J12=>PS ?_));refine ao ?_ ?_<;>intro h81;refine TL.ex (H':=λvb:Nat=>vQ V r (du s (max s.round m.ballot.round)) (.pointer (some ⟨vb,0,none⟩))::ah vb (VoteT.cells vt) 207::[ah b7 (ints m.flat) 163]) (λ_ q=>mZ (s:=(du s (max s.round m.ballot.round))) hv (aB [1] rfl q)) (λvb=>PS ?_);refine nx J12 (CY (ab λ_ J13=>D1 2 mixed ?_));refine PD 0 ?_;refine PD 1 ?_;refine FD 2 1067 c9 mP ?_;refine AL 3 ?_;refine LG 0 px (.pointer (some ⟨vb,0,none⟩)) ?_ (hc:=by exact λa_=>(bX _ rfl));refine EN (ta 4 rfl (jm rfl px rfl rfl) ?_);refine PD 5 ?_;refine PD 6 ?_;refine PD 7 ?_;refine FD 8 1067 c9 mP ?_;refine PD 10 ?_;refine FD 11 178 bd cv ?_;refine tb 12 rfl (aM (vs:=ints m.ballot.flat) rfl ka rfl cv rfl (λ_ h=>h.2.1) (ap m.ballot) (iV m 0 rfl (by decide) (whole (ap m.ballot)))) ?_;refine FD 13 180 bd cv ?_;refine tb 14 rfl (aM (vs:=ints m.had.flat) rfl ka rfl cv rfl (λ_ h=>h.2.1) (ap m.had) (Ql m 0 rfl (by decide) (whole (ap m.had)))) ?_;refine FD 15 182 bd fp ?_;refine tb 16 rfl (aM (vs:=ints m.change.flat) rfl na rfl fp rfl (λ_ h=>h.2.1) (aI m.change) (ni m 0 rfl (by decide) (whole (aI m.change)))) ?_;refine AL 9 ?_;refine LG 0 px (.pointer (some ⟨vb,0,none⟩)) ?_ (hc:=by exact λa_=>(bX _ rfl));refine EN (AL 17 ?_);refine CE N3 (DJ vb vt from' m.ballot m.had m.change (OkMg.ballot) hov.ballot) (SM [1]) ?_;refine bc ?_ ?_<;>intro h99;refine EN (PD 18 ?_)
 refine DN (ac J13 (CY (ad (ck (H':=cF V r (lw (du s (max s.round m.ballot.round)) ((eO vt from' m.ballot m.had m.change).1))::[ah b7 (ints m.flat) 163]) (λ_ q=>n9 (aB [1,0] rfl q)) (P2 ?_)))));refine CZ KE ((hp (by omega) h99)) ID λvR=>?_
 refine aq (ag (WK [0] (bp rfl ?_)))
 exact congrArg (λq=>[cF V r q]) (show _=eP V.toDk (λs_=>if m.kind=4 then pP V.toDk from' m s_ else lx V.toDk from' m s_) s from' m by
                              rw[eP,if_neg h15,if_neg (λh=>h.elim (λh=>absurd h (by omega)) (λh=>by rw[h50]at h;cases h)),if_pos (by omega),pP];simp only[show(du s (max s.round m.ballot.round)).vote=some vt from hv]
                              rw[if_pos h99])
 refine EN (PD 18 ?_);refine DN (ac J13 (CN (aT (ag (aF (H':=[cF V r (lw (du s (max s.round m.ballot.round)) (eO vt from' m.ballot m.had m.change).1)]) (dd _) (λ_ q=>n9 (ak [1,0] rfl q)) (bp rfl ?_))))))
 exact congrArg (λq=>[cF V r q]) (show(lw (du s (max s.round m.ballot.round)) (eO vt from' m.ballot m.had m.change).1)=eP V.toDk (λs_=>if m.kind=4 then pP V.toDk from' m s_ else lx V.toDk from' m s_) s from' m by
                              rw[eP,if_neg h15,if_neg (λh=>h.elim (λh=>absurd h (by omega)) (λh=>by rw[h50]at h;cases h)),if_pos (by omega),pP];simp only[show(du s (max s.round m.ballot.round)).vote=some vt from hv]
                              rw[if_neg (by rw[h99];decide)])
 refine PS ?_;refine nx J12 (CN (sr λ_ J14=>PS ?_));refine ao ?_ ?_<;>intro h105;refine TL.ex (H':=λvb:Nat=>vQ V r (du s (max s.round m.ballot.round)) (.pointer (some ⟨vb,0,none⟩))::ah vb (VoteT.cells vt) 207::[ah b7 (ints m.flat) 163]) (λ_ q=>mZ (s:=(du s (max s.round m.ballot.round))) hv (aB [1] rfl q)) (λvb=>PS ?_);refine nx J14 (CY (ab λ_ J15=>D1 2 mixed ?_));refine PD 0 ?_;refine PD 1 ?_;refine FD 2 1067 c9 mP ?_;refine AL 3 ?_;refine LG 0 px (.pointer (some ⟨vb,0,none⟩)) ?_ (hc:=by exact λa_=>(bX _ rfl));refine EN (ta 4 rfl (jm rfl px rfl rfl) ?_);refine PD 5 ?_;refine PD 6 ?_;refine PD 7 ?_;refine FD 8 1067 c9 mP ?_;refine PD 10 ?_;refine FD 11 178 bd cv ?_;refine tb 12 rfl (aM (vs:=ints m.ballot.flat) rfl ka rfl cv rfl (λ_ h=>h.2.1) (ap m.ballot) (iV m 0 rfl (by decide) (whole (ap m.ballot)))) ?_;refine AL 9 ?_;refine LG 0 px (.pointer (some ⟨vb,0,none⟩)) ?_ (hc:=by exact λa_=>(bX _ rfl));refine EN (AL 13 ?_);refine CE N2 (DU vb vt from' m.ballot (OkMg.ballot) hov.ballot) (SM [1]) ?_;refine bc ?_ ?_<;>intro h119;refine EN (PD 14 ?_);refine DN (ac J15 (CY (ad (ck (H':=cF V r (lw (du s (max s.round m.ballot.round)) ((gv vt from' m.ballot).1))::[ah b7 (ints m.flat) 163]) (λ_ q=>n9 (aB [1,0] rfl q)) (P2 ?_)))));refine CZ N1 (A2 V r (lw (du s (max s.round m.ballot.round)) (gv vt from' m.ballot).1) (gv vt from' m.ballot).1 rfl) ID λvR=>?_
 refine aq (ag (WK [0] (bp rfl ?_)))
 exact congrArg (λq=>[cF V r q]) (show _=eP V.toDk (λs_=>if m.kind=4 then pP V.toDk from' m s_ else lx V.toDk from' m s_) s from' m by
                                rw[eP,if_neg h15,if_neg (λh=>h.elim (λh=>absurd h (by omega)) (λh=>by rw[h50]at h;cases h)),if_neg (by omega),lx];simp only[show(du s (max s.round m.ballot.round)).vote=some vt from hv]
                                rw[if_pos h119,zZ])
 refine EN (PD 14 ?_);refine DN (ac J15 (CN (aT (ag (aF (H':=[cF V r (lw (du s (max s.round m.ballot.round)) (gv vt from' m.ballot).1)]) (dd _) (λ_ q=>n9 (ak [1,0] rfl q)) (bp rfl ?_))))))
 exact congrArg (λq=>[cF V r q]) (show(lw (du s (max s.round m.ballot.round)) (gv vt from' m.ballot).1)=eP V.toDk (λs_=>if m.kind=4 then pP V.toDk from' m s_ else lx V.toDk from' m s_) s from' m by
                                rw[eP,if_neg h15,if_neg (λh=>h.elim (λh=>absurd h (by omega)) (λh=>by rw[h50]at h;cases h)),if_neg (by omega),lx];simp only[show(du s (max s.round m.ballot.round)).vote=some vt from hv]
                                rw[if_neg (by rw[h119];decide)])
 · exact absurd h105 (by omega)
 refine EN (PD 18 ?_);refine PD 19 ?_;refine DN (ac J7 (CY (ai (ae (WK [1] (dI rfl ?_))))));exact MQ (by rw[eP,if_neg h15,if_pos (.inr h50)])
end Go.Proofs.YtfocodjhmkokpaaGreatDoor
end
