/-
  Joined texts:what a statement's proof reaches.
-/
import Derived.Test.YtfocodjhmkokpaaGreatDoorPTC5
set_option maxHeartbeats 8000000
set_option maxRecDepth 100000
set_option linter.unusedSimpArgs false
set_option linter.unusedVariables false
section
namespace Go.Proofs.YtfocodjhmkokpaaGreatDoor
open Go Leg Codec Api Dsk Wal
theorem Ct(b c s r:Nat)(us:List Value)(x:Value)(bs:List UInt8)(hb:bs.length≤1000000)(hroom:us.length<8):
 DT 116 #[(.pointer (some ⟨b,0,none⟩)),x] (IsW x bs) [ak b [(.chan (some c))] 184,ek c 8 (us) (s) (r)] (dA (λv H=>v= .bool true∧∃u,H=[ak b [(.chan (some c))] 184,ek c 8 (us++[u]) (s+1) r,cw u bs 5])):=by
 refine Leg.Does.body (vs:=[(.pointer (some ⟨b,0,none⟩)),x]) (n:=15) Tryz.func116 rfl rfl rfl (λw0 F hF=>?_);refine sr λ_ J1=>?_
 refine qn ?_;refine nx J1 ?_;refine aa λ_ J2=>?_
 refine sr λ_ J3=>?_
 refine mv ?_;refine tp (gD rfl rfl) ?_;refine tp (bb (r:=0) rfl Fe rfl vG rfl rfl) ?_;refine tp (ic (v:=(.chan (some c))) rfl wF rfl rfl (fj 0 rfl rfl) rfl) ?_;refine nx J3 ?_;refine af ?_;refine Fg (ab rfl) rfl rfl rfl gA l5 (λv9=>?_);change TL _ _ _ _ _ _ _ _ _ [cw v9 ([]) 5,ak b [(.chan (some c))] 184,ek c 8 (us) (s) (r)];refine mv ?_;refine cF (k:=0) (news:=dL (bs)) (nn':=(bs:List UInt8).length) (xs':=dL (bs)) (ab rfl) rfl rfl rfl gA yA rfl rfl rfl rfl rfl rfl (λ_ _=>hF.src (λ_ h=>fm h)) (e6 _) (by simp only[maxLen,ao];omega) (by simp only[ao];omega) (by simp) (bG _) (λv11 ov11=>?_);change TL _ _ _ _ _ _ _ _ _ [cw v11 (bs) 5,ak b [(.chan (some c))] 184,ek c 8 (us) (s) (r)];refine nx J2 ?_;refine aa λ_ J4=>?_
 refine zJ ?_;change TX _ _ _ _ _ _ [0,1,2] _ _ _;refine TX.sendRoom 2 rfl (ab rfl) rfl rfl rfl z53 rfl rfl rfl rfl hroom ?_;change TX _ _ _ _ _ _ _ _ _ [cw v11 (bs) 5,ak b [(.chan (some c))] 184,ek c 8 (us++[v11]) (s+1) (r)];refine uH rfl (ab rfl) rfl rfl (ix (vs:=[(.int .i64 0),(.bool false)]) rfl rfl rfl) ?_;refine uH rfl (ab rfl) rfl rfl (QL rfl rfl rfl) ?_;refine Nl ?_;refine ae J4 ?_;refine av ?_;refine od rfl ?_;refine sr λ_ J5=>?_
 refine qn ?_;refine nx J5 ?_;refine aj ?_;refine aK ?_;refine aF (dH _) (λ_ s=>an [1,1,0] rfl s) ?_;refine aw rfl rfl ?_;exact⟨rfl,_,rfl⟩
theorem yU(b c s r:Nat)(us:List Value)(ls:List (List UInt8))(h8:ls.length≤8)(hb: ∀x∈ls,x.length≤1000000):
    DT 78 #[(.pointer (some ⟨b,0,none⟩))] T0 [ak b [(.chan (some c))] 184,ek c 8 (us) (s) (r),eJ (us) (ls) 5] (dA (λv H=>((ls.length=0∨ls.length=8)∧v= .bool false∧H=[ak b [(.chan (some c))] 184,ek c 8 us s r,eJ us ls 5])∨(ls.length≠0∧ls.length≠8∧v= .bool true∧∃un,H=[ak b [(.chan (some c))] 184,ek c 8 (us++[un]) (s+us.length+1) (r+us.length),eJ us ls 5,cw un (ls.getD 0 []) 5]))):=by
 refine BD 41 Tryz.func78 rfl rfl rfl λw0 F hF=>sr λ_ J1=>PS ?_
 refine nx J1 (sr λ_ J2=>PS ?_);refine CE F2 (uE b c s r us ls) ID ?_;change TL _ _ _ _ _ _ _ _ _ [ak b [(.chan (some c))] 184,ek c 8 (us) (s) (r),eJ (us) (ls) 5];refine zH (p:=us.length=ls.length) (λw m=>(rU 2 rfl rfl m).1) (λhul=>PS ?_);refine nx J2 (aa λ_ J3=>sr λ_ J4=>P2 ?_);refine aq ?_ ?_<;>intro h10;refine PS ?_
 iterate 7 refine UT ?_
 refine PS ?_;refine nx J4 (CY (sr λ_ J5=>PS ?_));refine nx J5 (aj (ag (WK [0,0,0] (aw rfl rfl ?_))));exact .inl ⟨by omega,rfl,rfl⟩;refine P4 ?_;refine FA 0 Fe vG ?_;refine LA 0 wF ?_;refine tq (PV.capChan 1 rfl wF rfl rfl rfl) ?_;refine PS ?_;refine aq ?_ ?_<;>intro h18;refine PS ?_;refine nx J4 (CY (sr λ_ J6=>PS ?_));refine nx J6 (aj (ag (WK [0,0,0] (aw rfl rfl ?_))));exact .inl ⟨by omega,rfl,rfl⟩;refine PS ?_;refine nx J4 (CN (qx J3 (sr λ_ J7=>PS ?_)));refine nx J7 (aa λ_ J8=>sr λ_ J9=>P2 ?_);refine nx J9 (av ?_)
 refine bz (α:=(Nat)) (λk=>k≤us.length) (λk=>[(0,(.pointer (some ⟨b,0,none⟩))),(2,(.bool false)),(4,(Ep k (us.getD 0 undef))),(20,(.int .i64 (((ls.length:Nat):Int)))),(21,(.int .i64 (((k:Nat):Int))))]) (λk=>[ak b [(.chan (some c))] 184,ek c 8 (us.drop k++us.take k) (s+k) (r+k),eJ (us) (ls) 5]) (λk=>us.length-k) 0
     (aO _) SB
     (λ_ q=>by simpa using q) (λk hinv=>?_)
 obtain hk:=hinv;refine sr λ_ J10=>PS ?_
 refine aq ?_ ?_<;>intro h22;have hku:k<us.length:=by omega
 refine nx J10 (aa λ_ J11=>CY (qx J11 (aa λ_ J12=>av (sr λ_ J13=>P2 ?_))));refine nx J13 (aa λ_ J14=>zJ (uH rfl (ab rfl) rfl rfl (kf rfl rfl) (uH rfl (ab rfl) rfl rfl (gD rfl rfl) (uH rfl (ab rfl) rfl rfl (bb (r:=0) rfl Fe rfl vG rfl rfl) (uH rfl (ab rfl) rfl rfl (ic (v:=(.chan (some c))) rfl wF rfl rfl (RO 0) rfl) (TX.recv1 1 rfl (ab rfl) rfl rfl rfl wF z53 rfl rfl rfl (Kq hku) (uH rfl (ab rfl) rfl rfl (Si rfl rfl) (Nl (ae J14 (aa λ_ J15=>?_))))))))));refine sr λ_ J16=>P2 ?_
 refine aq ?_ ?_<;>intro h30;refine nx J16 (CY (af (P2 ?_)));refine nx J15 (zJ (uH rfl (ab rfl) rfl rfl (kf rfl rfl) (uH rfl (ab rfl) rfl rfl (gD rfl rfl) (uH rfl (ab rfl) rfl rfl (bb (r:=0) rfl Fe rfl vG rfl rfl) (uH rfl (ab rfl) rfl rfl (ic (v:=(.chan (some c))) rfl wF rfl rfl (RO 0) rfl) (uH rfl (ab rfl) rfl rfl (kf rfl rfl) (TX.send1 1 rfl (ab rfl) rfl rfl rfl rfl rfl rfl (by simp only[ac,dP,aZ];omega) (Nl (ai (ae J12 (af ?_)))))))))));refine AD ?_;refine PS ?_;refine ax ?_
 exact aM ((k+1):(Nat)) (by omega) (by show us.length- (k+1)<us.length-k;omega)
   (aS (aS (bJ rfl (by first|exact Ln (by omega) hku|exact Ll (by omega)) SB)))
   (λ_ q=>by
      rw[DL hku]at q
      exact q)
 refine nx J16 (CN (qx J15 (zJ (uH rfl (ab rfl) rfl rfl (kf rfl rfl) (uH rfl (ab rfl) rfl rfl (gD rfl rfl) (uH rfl (ab rfl) rfl rfl (bb (r:=0) rfl Fe rfl vG rfl rfl) (uH rfl (ab rfl) rfl rfl (ic (v:=(.chan (some c))) rfl wF rfl rfl (RO 0) rfl) (uH rfl (ab rfl) rfl rfl (kf rfl rfl) (TX.send1 1 rfl (ab rfl) rfl rfl rfl rfl rfl rfl (by simp only[ac,dP,aZ];omega) (Nl (ai ?_)))))))))));refine ae J12 (af (AD ?_));refine PS ?_;refine ax ?_
 exact aM ((k+1):(Nat)) (by omega) (by show us.length- (k+1)<us.length-k;omega)
   (aS (aS (bJ rfl (by first|exact Ln (by omega) hku|exact Ll (by omega)) SB)))
   (λ_ q=>by
      rw[DL hku]at q
      exact q)
 obtain rfl:k=us.length:=by omega
 have hpos:0<ls.length:=by omega
 have hg:ls.getD 0 []=ls[0]:=by simp[List.getD_eq_getElem?_getD,hpos]
 refine cz (H':=[ak b [(.chan (some c))] 184,ek c 8 us (s+us.length) (r+us.length),eJ us ls 5]) (λ_ q=>by simpa using q) (nx J10 (aa λ_ J17=>CN (aX (aC (aC (bq (ae J8 (sr λ_ J18=>P2 ?_))))))))
 refine lG (ab rfl) rfl rfl rfl KX rfl (Ct b c (s+us.length) (r+us.length) us (Ep us.length (us.getD 0 undef)) (ls.getD 0 []) (hb _ (hg▸df hpos)) (by omega)) (λ_ s=>s) (λg d s=>by
          rw[Lm (by omega),hg]
          exact L6 (vl 0 hpos rfl rfl g d s)) (λvR HR hR=>?_)
 obtain⟨rfl,un,rfl⟩:=hR;refine PS ?_;refine nx J18 (aj (WK [0,0,1,0] (aw rfl rfl ?_)));exact .inr ⟨by omega,by omega,rfl,un,rfl⟩
theorem zC(b:Nat)(ls:List (List UInt8))(h8:ls.length≤8)(hb: ∀x∈ls,x.length≤1000000):DT 78 #[.pointer (some ⟨b,0,none⟩)] T0 [iK 184 5 b ls] (RI (.bool (JU ls)) [iK 184 5 b (FB ls)]):=
 Leg.Does.pack (B:=[]) λq=>Leg.Does.fold (yU b q.1 q.2.2.1 q.2.2.2 q.2.1 ls h8 hb) λe H hp=>by
  cases e with
  |returned v=>
   unfold JU FB;rcases hp with⟨h,rfl,rfl⟩| ⟨h1,h2,rfl,un,rfl⟩
   · exact⟨[iK 184 5 b ls],λ_ s=>bv (p:=λq:Nat×List Value×Nat×Nat=>[ak b [.chan (some q.1)] 184,ek q.1 8 q.2.1 q.2.2.1 q.2.2.2,eJ q.2.1 ls 5]) (H:=[]) q s,by rw[decide_eq_false (by omega)],by rw[if_neg (by omega)]⟩
   · refine⟨[iK 184 5 b (ls++[ls.getD 0 []])],λ_ s=>?_,by rw[decide_eq_true (by omega)],by rw[if_pos (by omega)];rfl⟩
     have s1:=By 3 rfl rfl s;have s2:=aD [2,2] rfl s1;have s3:=vw s2;exact bv (p:=λq:Nat×List Value×Nat×Nat=>[ak b [.chan (some q.1)] 184,ek q.1 8 q.2.1 q.2.2.1 q.2.2.2,eJ q.2.1 (ls++[ls.getD 0 []]) 5]) (H:=[]) (q.1,q.2.1++[un],q.2.2.1+q.2.1.length+1,q.2.2.2+q.2.1.length) (aD [1,1,0] rfl s3)
  |panicked c=>exact hp.elim
  |outgrown=>exact hp.elim
theorem uC(b:Nat)(ls:List (List UInt8))(h8:ls.length≤8)(hb: ∀x∈ls,x.length≤1000000):
 DT 79 #[(.pointer (some ⟨b,0,none⟩))] T0 [iK 184 5 b (ls)] (dA (λv H=>H=[iK 184 5 b (tF ls)])):=by
 refine BD 16 Tryz.func79 rfl rfl rfl λw0 F hF=>sr λ_ J1=>PS ?_
 refine nx J1 (sr λ_ J2=>PS ?_);refine CR NP (uD b ls) ID λvR HR hR=>?_
 rcases hR with⟨rfl,rfl,rfl⟩| ⟨u,f,lt,rfl,rfl,rfl⟩
 refine P4 ?_;refine PS ?_;refine nx J2 (sr λ_ J3=>P2 ?_)
 iterate 3 refine UF ?_
 refine P2 ?_;exact nx J3 (aj (WK [0] (aw rfl rfl rfl)));refine P4 ?_;refine PS ?_;refine nx J2 (sr λ_ J4=>P4 ?_);refine CF KX (wl b lt u f (hb f (cn ..))) ID (λg d s=>L6 (B9 0 rfl rfl g d s)) ?_;refine P2 ?_;refine nx J4 (aj (WK [0] (aw rfl rfl ?_)));exact congrArg (λq=>[iK 184 5 b q]) (if_pos (show lt.length<8 by have:=h8;rw[ah]at this;omega))
end Go.Proofs.YtfocodjhmkokpaaGreatDoor
end

section
namespace Leg
open Go
def RdG(S:World→Prop)(b:Nat){α:Type}(c:α→List Value)(T:TypeId):Prop:=∀w,S w→∃a,w.heap[b]?=some (.cells (c a).toArray T (0,0))
abbrev hid{α:Type}(b:Nat)(c:α→List Value)(T:TypeId)(R:α→List HP):HP:=pack (λa=>ak b (c a) T::R a)
section
variable {P:Program} {w0:World} {F:Hl} {n:Nat} {ops:Array Oper} {Q:QQ} {D:List Deferred} {L:List (Nat×Value)} {H:List HP} {o:Oper} {l:List Oper} {d:Nat} {S:World→Prop} {α:Type} {b j:Nat} {c c':α→List Value} {T:TypeId} {R R':α→List HP}
theorem Sat.packOpen{p:α→List HP}{w:World}(i:Nat)(s:Sat H F w)(hi:i<H.length)(hH:H.getD i (λ_=>True)=pack p): ∃a,Sat (p a++H.eraseIdx i) F w:=by
 obtain⟨h,d,e,x⟩:=s;have y:=eU i hi x;rw[hH]at y;obtain⟨a,z⟩:=fK (p:=p) (H:=H.eraseIdx i) (h:=h) y;exact⟨a,h,d,e,z⟩
theorem Sat.packShut{p:α→List HP}{w:World}(i:Nat)(hi:i<H.length)(a:α)(s:Sat (p a++H.eraseIdx i) F w):Sat (H.set i (pack p)) F w:=by
 obtain⟨h,d,e,x⟩:=s;exact⟨h,d,e,lm i hi (bv a x)⟩
theorem RdG.own(i:Nat)(hi:Nat.blt i H.length=true)(hH:H.getD i (λ_=>True)=hid b c T R):RdG (Sat H F) b c T:=λw s=>by
 obtain⟨a,t⟩:=s.packOpen i (lb hi) hH;exact⟨a,t.block 0 (by simp) rfl⟩
abbrev db:= @RdG.own
theorem PV.load1G{t:TypeId}{x:Operand}{dt:TypeDesc}{v:Value}(ho:o.op= .load t x)(ht:P.underlying t=some dt)(hp:eB dt=true)(hx:cL L x=some (.pointer (some ⟨b,j,none⟩)))(hR:RdG S b c T)(hc: ∀a,(c a)[j]?=some v):PV P n D L S o v:=
 λa w f m=>by
  obtain⟨y,hy⟩:=hR w m;exact ic (S:=λw'=>w'=w) ho ht hp hx (λ_ e=>e▸hy) (hc y) a w f rfl
abbrev dz:= @PV.load1G
theorem PV.loadNG{t:TypeId}{x:Operand}{dt:TypeDesc}{m:Nat}{vs:List Value}(ho:o.op= .load t x)(ht:P.underlying t=some dt)(hp:eB dt=false)(hm:(P.info? t).map (·.size)=some m)(hx:cL L x=some (.pointer (some ⟨b,j,none⟩)))(hR:RdG S b c T)(hl:vs.length=m)(hc: ∀a,((c a).drop j).take m=vs):PV P n D L S o (.agg vs.toArray):=
 λa w f s=>by
  obtain⟨y,hy⟩:=hR w s;exact aP (S:=λw'=>w'=w) ho ht hp hm hx (λ_ e=>e▸hy) hl (hc y) a w f rfl
abbrev gx:= @PV.loadNG
theorem TL.storeG{i:Nat}{t:TypeId}{x y:Operand}{v:Value}{vs:List Value}(hw:Want n D ops o L)(ho:o.op= .store t x y)(hd:o.dst=none)
 (hx:cL L x=some (.pointer (some ⟨b,j,none⟩))) (hy:cL L y=some v) (hv:v.cells=vs.toArray) (hs:(P.info? t).map (·.size)=some vs.length) (h1: ∀u∈vs,u.oneCell'=true)
 (hi:Nat.blt i H.length=true) (hH:H.getD i (λ_=>True)=hid b c T R) (hl: ∀a,j+vs.length≤(c a).length) (hcs: ∀a,wr (c a) j vs=c' a)
 (h:TL P w0 F n ops Q l D L (H.set i (hid b c' T R))):TL P w0 F n ops Q (o::l) D L H:=
 TL.eff hw hd (λa w f _ m=>by
  obtain⟨q,m1⟩:=m.packOpen i (lb hi) hH;have hb:=m1.block 0 (by simp) rfl;refine⟨w.setRow b (wr (c q) j vs).toArray,by simp[execOp,ho,f.eval hx,f.eval hy,xK hv hs h1 hb (hl q)],⟨rfl,rfl,rfl,by simp⟩,?_⟩;rw[hcs q]
  exact Sat.packShut (p:=λa=>ak b (c' a) T::R a) i (lb hi) q (m1.write 0 (by simp) rfl (setRow_heap w b (c q).toArray _ T _ hb) (λk hk=>setRow_other w b k _ hk))) h
abbrev ir:= @TL.storeG
theorem TL.store1G{i:Nat}{t:TypeId}{x y:Operand}{v:Value}(hw:Want n D ops o L)(ho:o.op= .store t x y)(hd:o.dst=none)
 (hx:cL L x=some (.pointer (some ⟨b,j,none⟩))) (hy:cL L y=some v) (h1:v.oneCell'=true) (hs:(P.info? t).map (·.size)=some 1)
 (hi:Nat.blt i H.length=true) (hH:H.getD i (λ_=>True)=hid b c T R) (hl: ∀a,j< (c a).length) (hcs: ∀a,(c a).set j v=c' a)
 (h:TL P w0 F n ops Q l D L (H.set i (hid b c' T R))):TL P w0 F n ops Q (o::l) D L H:=
 ir (vs:=[v]) hw ho hd hx hy (by cases v<;>simp[Value.cells,Value.oneCell']at h1 ⊢) hs (by simpa using h1) hi hH (λa=>by have:=hl a;simp;omega)
  (λa=>by rw[←hcs a,wr,oL,if_pos (hl a)];simp) h
theorem Ib{p p' a b c d:HP}{h:Hl}(e: ∀h,p h→p' h)(s:bH (a::b::c::d::p::H) h):bH (a::b::c::d::p'::H) h:=
 cM s (λ_ x=>x) λ_ s=>cM s (λ_ x=>x) λ_ s=>cM s (λ_ x=>x) λ_ s=>cM s (λ_ x=>x) λ_ s=>cM s e λ_ x=>x
theorem Does.hid{f:FuncId}{args:Array Value}{A:List HP}{q:Value→Prop}(h: ∀a,Does P f args (λ_=>True) (ak b (c a) T::A) (dA λv H=>q v∧H=ak b (c' a) T::A)):Does P f args (λ_=>True) (Leg.hid b c T R::A) (dA λv H=>q v∧H=Leg.hid b c' T R::A):=
 Does.pack λa=>Does.withinR (B:=R a) (h a) (λ_ _ _ _=>trivial) (λ_ s=>eA (List.Perm.cons (ak b (c a) T) (List.perm_append_comm (l₁:=R a) (l₂:=A))) s) λv H hp=>by
  obtain⟨h1,rfl⟩:=hp;exact⟨_,λ_ s=>bv (p:=λa=>ak b (c' a) T::R a) a (eA (List.Perm.cons (ak b (c' a) T) (List.perm_append_comm (l₁:=A) (l₂:=R a))) s),h1,rfl⟩
end
open Api
variable {P:Program} {w0:World} {F:Hl} {n:Nat} {ops:Array Oper} {Q:QQ} {D:List Deferred} {L:List (Nat×Value)} {H:List HP} {d:Nat} {o:Oper} {l:List Oper}
section
variable {A:Type} {b:Nat} {c:A→List Value} {T:TypeId} {R:A→List HP}
theorem LG{t:TypeId}{x:Operand}{dt:TypeDesc}{j:Nat}(k:Nat)(ht:P.underlying t=some dt)(v:Value)(h:TL P w0 F n ops Q l D ((d,v)::L) H)(hw:Want n D ops o L:=by first|exact ab rfl|exact cq rfl rfl rfl)(hd:o.dst=some d:=by exact rfl)(hn:Nat.blt d n=true:=by exact rfl)(ho:o.op= .load t x:=by exact rfl)(hp:eB dt=true:=by exact rfl)(hx:cL L x=some (.pointer (some ⟨b,j,none⟩)):=by exact rfl)(hk:Nat.blt k H.length=true:=by exact rfl)(hH:H.getD k (λ_=>True)=hid b c T R:=by exact rfl)(hc: ∀a,(c a)[j]?=some v):TL P w0 F n ops Q (o::l) D L H:=mx hw hd hn (dz ho ht hp hx (db k hk hH) hc) h
theorem LZ{α:Type}{f:α→List Int}{t:TypeId}{x:Operand}{dt:TypeDesc}{j m:Nat}(k:Nat)(ht:P.underlying t=some dt)(hs:(P.info? t).map (·.size)=some m)(hf: ∀x,(ints (f x)).length=m)(y:α)(h:TL P w0 F n ops Q l D ((d, .agg (ints (f y)).toArray)::L) H)(hw:Want n D ops o L:=by first|exact ab rfl|exact cq rfl rfl rfl)(hd:o.dst=some d:=by exact rfl)(hn:Nat.blt d n=true:=by exact rfl)(ho:o.op= .load t x:=by exact rfl)(hp:eB dt=false:=by exact rfl)(hx:cL L x=some (.pointer (some ⟨b,j,none⟩)):=by exact rfl)(hk:Nat.blt k H.length=true:=by exact rfl)(hH:H.getD k (λ_=>True)=hid b c T R:=by exact rfl)(hc: ∀a,((c a).drop j).take m=ints (f y)):TL P w0 F n ops Q (o::l) D L H:=mx hw hd hn (gx ho ht hp hs hx (db k hk hH) (hf y) hc) h
theorem SK{o:Oper}{l:List Oper}{t:TypeId}{x y:Operand}{j m:Nat}{v:Value}{c':A→List Value}(k:Nat)(hs:(P.info? t).map (·.size)=some 1)(hl: ∀a,(c a).length=m)(h:TL P w0 F n ops Q l D L (H.set k (hid b c' T R)))(hw:Want n D ops o L:=by first|exact ab rfl|exact cq rfl rfl rfl)(hd:o.dst=none:=by exact rfl)(ho:o.op= .store t x y:=by exact rfl)(hx:cL L x=some (.pointer (some ⟨b,j,none⟩)):=by exact rfl)(hy:cL L y=some v:=by exact rfl)(h1:v.oneCell'=true:=by exact rfl)(hk:Nat.blt k H.length=true:=by exact rfl)(hH:H.getD k (λ_=>True)=hid b c T R:=by exact rfl)(hj:Nat.blt j m=true:=by first|exact rfl|exact Nat.ble_eq_true_of_le (by omega))(hc: ∀a,(c a).set j v=c' a):TL P w0 F n ops Q (o::l) D L H:=TL.store1G hw ho hd hx hy h1 hs hk hH (λa=>(hl a)▸lb hj) hc h
end
end Leg
end

section
namespace Go.Proofs.YtfocodjhmkokpaaGreatDoor
open Go Leg Codec Api Dsk Wal
structure Env(δ:Type) extends Dk δ where
 T:Nat
 ov:Value
 sf:Nat
 E:δ→List SaidT→HP
 lg:Nat→δ→HP
 me : y8 Tryz.prog T ov "Send" sf
 nm:Named Tryz.prog sf
 say: ∀(e:δ) (l:List SaidT) (to':Int) (m:MsgT),ok e→Leg.Does Tryz.prog sf #[ov, .int .i64 to', .agg (ints m.flat).toArray] (λ_=>True) [E e l] (dA (λ_ H=>H=[E e (if dn e then l else l++[SaidT.mk to' m])]))
 put: ∀(g:Nat) (x:Value) (bs:List UInt8) (e:δ) (l:List SaidT),ok e→bs.length≤3000→Leg.Does Tryz.prog 155 #[.pointer (some ⟨g,0,none⟩),x] (IsW x bs) [lg g e,E e l] (dA (λv H=>v= .int .i64 (pt e bs).2∧H=[lg g (pt e bs).1,E (pt e bs).1 l]))
def GY(vo:Value):Option VoteT→HP
 |none=>λ_=>vo= .pointer none
 |some vt=>λh=>∃b,vo= .pointer (some ⟨b,0,none⟩)∧ak b (VoteT.cells vt) 207 h
abbrev cU{δ:Type}(V:Env δ)(r:Nat)(s:MS δ):HP:=hid r (λa:Adr=>RepT.cells (s.rep a)) 87 (λa=>[V.lg a.lg s.e,own a.rs s.replies.length (ints (s.replies.flatMap ReplyT.flat)) 47 3,GY a.vo s.vote,V.E s.e s.o])
abbrev w5{δ:Type}(V:Env δ)(r:Nat)(s:MS δ)(vo:Value):HP:=hid r (λa:Nat×Value=>RepT.cells (s.rep ⟨a.1,vo,a.2⟩)) 87 (λa=>[V.lg a.1 s.e,own a.2 s.replies.length (ints (s.replies.flatMap ReplyT.flat)) 47 3,V.E s.e s.o])
theorem j8{δ:Type}{V:Env δ}{r:Nat}{f:MS δ×Int}{X:MS δ}{y:Int}(e:f=(X,y)):Value.int .i64 y= .int .i64 f.2∧[cU V r X]=[cU V r f.1]:=by
 subst e;exact⟨rfl,rfl⟩
theorem Ik{δ:Type}(V:Env δ)(r:Nat)(s:MS δ)(to':Int)(m:MsgT)[hs:OkR V.toDk s]:DT V.sf #[V.ov, .int .i64 to', .agg (ints m.flat).toArray] T0 [cU V r s] (dA (λ_ H=>H=[cU V r (BE V.toDk s to' m)])):=
 Leg.Does.pack λa=>Leg.Does.withinR (V.say s.e s.o to' m hs.e) (λ_ _ _ _=>trivial) (λ_ q=>aD [4] rfl q) λv H hp=>by
  subst hp;refine⟨_,λ_ q=>?_,rfl⟩;have q2:=aD [1,1,1,1,0] rfl q;exact bv (p:=λa:Adr=>[ak r (RepT.cells (s.rep a)) 87,V.lg a.lg s.e,own a.rs s.replies.length (ints (s.replies.flatMap ReplyT.flat)) 47 3,GY a.vo s.vote,V.E s.e (if V.dn s.e then s.o else s.o++[SaidT.mk to' m])]) a q2
theorem gK{δ:Type}(V:Env δ)(r:Nat)(s:MS δ)(to':Int)(m:MsgT)(f:MS δ→MS δ)(hT:to'=s.id→DT 82 #[.pointer (some ⟨r,0,none⟩), .iface V.T V.ov, .int .i64 s.id, .agg (ints m.flat).toArray] T0 [cU V r s] (dA (λ_ H=>H=[cU V r (f s)])))[OkR V.toDk s]:
 DT 128 #[(.pointer (some ⟨r,0,none⟩)),(.iface V.T V.ov),(.int .i64 (to')),(.agg (ints m.flat).toArray)] T0 [cU V r s] (dA (λ_ H=>H=[cU V r (lO V.toDk f s to' m)])):=by
 refine Leg.Does.body (vs:=[(.pointer (some ⟨r,0,none⟩)),(.iface V.T V.ov),(.int .i64 (to')),(.agg (ints m.flat).toArray)]) (n:=28) Tryz.func128 rfl rfl rfl (λw0 F hF=>?_);refine sr λ_ J1=>?_
 refine TL.box (ab rfl) rfl rfl rfl rfl (λb7=>?_);change TL _ _ _ _ _ _ _ _ _ [ak b7 (ints m.flat) 163,cU V r s];refine nx J1 ?_;refine aa λ_ J2=>?_
 refine sr λ_ J3=>?_
 refine mv ?_;refine mv ?_;refine tp (gD rfl rfl) ?_;refine tp (bb (r:=0) rfl dw rfl aR rfl rfl) ?_;refine tp (dz (v:=(.int .i64 (s.id))) rfl Y3 rfl rfl (db 1 rfl rfl) (λa_=>(cR (s.rep a_) rfl))) ?_;refine tp (QL rfl rfl rfl) ?_;refine aq (λh13=>?_) (λh13=>?_);refine nx J3 ?_;refine od rfl ?_;refine aa λ_ J4=>?_
 refine s8 (λw=>Frm F w∧w.heap[b7]?=some (.cells (ints m.flat).toArray 163 (0,0))∧True) mixed rfl (λ_ s=>⟨fm s,s.block 0 (lb rfl) rfl,trivial⟩) ?_;refine ta 0 rfl (kf rfl rfl) ?_;refine ta 1 rfl (kf rfl rfl) ?_;refine ta 2 rfl (kf rfl rfl) ?_;refine ta 3 rfl (gD rfl rfl) ?_;refine ta 4 rfl (bb (r:=0) rfl dw rfl aR rfl rfl) ?_;refine ta 6 rfl (aP (vs:=ints m.flat) rfl bj rfl cp rfl (λ_ h=>h.2.1) (aJ m) (whole (aJ m))) ?_;refine cZ [5] (by kernel_rfl) rfl ?_;refine aG rfl ?_ ?_;refine tp (dz (v:=(.int .i64 (s.id))) rfl Y3 rfl rfl (db 1 rfl rfl) (λa_=>(cR (s.rep a_) rfl))) ?_;refine ax ?_;refine wo (λ_ s=>⟨fm s,s.block 0 (lb rfl) rfl,trivial⟩) ?_;refine cZ [7] (by kernel_rfl) rfl ?_;refine aG rfl ?_ ?_;refine lG (ab rfl) rfl rfl rfl Pr rfl ((by have h:=hT h13;exact h)) (λ_ s=>aD [1] rfl s) (λ_ _ _=>trivial) (λvR HR hR=>?_);obtain rfl:=hR;refine ax ?_;refine wo (λ_ s=>⟨fm s,s.block 1 (lb rfl) rfl,trivial⟩) ?_;refine TD.done (by kernel_rfl) ?_;refine ae J4 ?_;refine aj ?_;refine ag ?_;refine aF (dH _) (λ_ s=>an [0] rfl s) ?_;refine dV rfl ?_;exact(congrArg (λq=>[cU V r q]) (if_pos h13)).symm;exact bM;exact bM;refine nx J3 ?_;refine HJ rfl ?_;refine aV ?_;refine ae J2 ?_;refine sr λ_ J5=>?_
 refine mv ?_;refine tp (PV.ifaceNotNil rfl Tryz.underlying152 rfl) ?_;refine nx J5 ?_;refine od rfl ?_;refine af ?_;refine mv ?_;refine mv ?_;refine tp (aP (vs:=ints m.flat) rfl bj rfl cp rfl (fj 0 rfl rfl) (aJ m) (whole (aJ m))) ?_;refine TL.callI (ab rfl) rfl rfl rfl rfl V.me V.nm rfl (Ik V r s to' m) (λ_ s=>aD [1] rfl s) (λ_ _ _=>trivial) (λvR HR hR=>?_);obtain rfl:=hR;refine ax ?_;refine aF (dH _) (λ_ s=>an [0] rfl s) ?_;refine bC rfl ?_;exact(congrArg (λq=>[cU V r q]) (if_neg h13)).symm
theorem jX{δ:Type}(V:Env δ)(r:Nat)(s:MS δ)(to':Int)(m:MsgT)(hto:to'≠s.id)[OkR V.toDk s]:DT 128 #[.pointer (some ⟨r,0,none⟩), .iface V.T V.ov, .int .i64 to', .agg (ints m.flat).toArray] T0 [cU V r s] (dA (λ_ H=>H=[cU V r (ja V.toDk s [⟨to',m⟩])])):=by
 have h:=gK V r s to' m id (λe=>absurd e hto)
 rwa [show lO V.toDk id s to' m=ja V.toDk s [⟨to',m⟩]from if_neg hto]at h
theorem oW{δ:Type}(V:Env δ)(r:Nat)(s:MS δ)(l:List SaidT)(to':Int)(m:MsgT)(hto:to'≠s.id)[OkR V.toDk s]:DT 128 #[.pointer (some ⟨r,0,none⟩), .iface V.T V.ov, .int .i64 to', .agg (ints m.flat).toArray] T0 [cU V r (ja V.toDk s l)] (dA (λ_ H=>H=[cU V r (ja V.toDk s (l++[⟨to',m⟩]))])):=by
 have h:=jX V r (ja V.toDk s l) to' m hto
 rwa [Kp]at h
theorem MQ{δ:Type}{V:Env δ}{r:Nat}{a b:MS δ}(h:a=b):[cU V r a]=[cU V r b]:=by rw[h]
theorem oD{δ:Type}(V:Env δ)(r:Nat)(s:MS δ)[OkR V.toDk s]:
 DT 83 #[(.pointer (some ⟨r,0,none⟩)),(.iface V.T V.ov)] T0 [cU V r s] (dA (λ_ H=>H=[cU V r (eY V.toDk s)])):=by
 refine BD 40 Tryz.func83 rfl rfl rfl λw0 F hF=>?_
 have hid:cO s.id=true:=OkR.id;have hid2:0≤s.id∧s.id<5:=of_decide_eq_true hid;refine aa λ_ J1=>DB mixed (db 0 rfl rfl) ?_
 refine PD 0 ?_;refine PD 1 ?_;refine FD 2 0 dw aR ?_;refine ta 3 rfl (dz (v:=(.int .i64 (s.id))) rfl Y3 rfl rfl (λ_ h=>h.2.1) (λa_=>(cR _ rfl))) ?_;refine PD 4 ?_;refine PD 5 ?_;refine FD 6 9 dw bg ?_;refine ta 7 rfl (gx (vs:=ints s.own.flat) rfl ec rfl bg rfl (λ_ h=>h.2.1) (am s.own) (λa_=>(zL (s.rep a_) 0 rfl (by decide) (whole (am ((s.rep a_).own)))))) ?_;refine ta 8 rfl (mI MsgT.zero (MsgT.mk 0 s.id s.own 0 0 BallotT.zero BallotT.zero ChangeT.zero ViewT.zero) [(0,[Value.int .i64 0]),(1,[Value.int .i64 s.id]),(2,ints s.own.flat)] bj bA (g:=MsgT.sg)) ?_;refine AL 9 ?_;refine XZ mZ (ints MsgT.zero.flat) λb4=>?_
 refine EN (AL 10 ?_);refine SW 0 cp aJ ?_;refine EN (DN (ae J1 (sr λ_ J2=>P2 ?_)));refine FA 0 dw aR ?_;refine LG 1 Y3 (.int .i64 (s.id)) ?_ (hc:=by exact λa_=>(cR _ rfl));refine CR D3 (rB s.id hid) ID λvR HR hR=>?_
 obtain⟨_,rfl,rfl⟩:=hR;revert vR;intro uw;refine iV 0 rfl rfl (λhluw _=>iI 0 rfl rfl (by omega) (λgw capw hvw hcapw=>tp (dI rfl jx rfl hluw) ?_));refine PS ?_;refine nx J2 (av (ou 2 (sr λ_ J3=>PS ?_)));refine nx J3 (aa λ_ J4=>CY (qx J4 (aa λ_ J5=>av (sr λ_ J6=>tp (bO (r:=0) hvw rfl jx aR rfl rfl (by omega) (by omega) rfl) ?_))));refine tp (de (v:=(.int .i64 (((s.id+1)%5)))) rfl Y3 rfl rfl (fQ 0 rfl hvw rfl) rfl) ?_;refine PS ?_;refine nx J6 (sr λ_ J7=>P2 ?_);refine FA 1939 dw aR ?_;refine LG 2 Y3 (.int .i64 (s.kept)) ?_ (hc:=by exact λa_=>(td _ rfl));refine PS ?_;refine tp (mB (r:=(s.kept.fdiv (2^min (((s.id+1)%5)).toNat IntKind.i64.bits))) rfl rfl rfl (by omega) rfl) ?_;refine tp (wK (r:=((s.kept.fdiv (2^min (((s.id+1)%5)).toNat IntKind.i64.bits))%2)) rfl rfl rfl (mask (k:=1) (by decide) _)) ?_;refine PS ?_;refine aq ?_ ?_<;>intro h33;refine nx J7 (CY (af (P3 ?_)));refine LW 1 bj cp aJ ?_;refine CZ jM (jX V r s ((s.id+1)%5) (MsgT.mk 0 s.id s.own 0 0 BallotT.zero BallotT.zero ChangeT.zero ViewT.zero) (by omega)) (SM [2]) λvR=>?_
 refine ax (ai (ae J5 (af (tp (cN (r:=1) rfl rfl rfl (by decide)) ?_))));refine PS ?_;refine ax (eD (sr λ_ J8=>PS ?_));refine nx J8 (aa λ_ J9=>CY (qx J9 (aa λ_ J10=>av (sr λ_ J11=>tp (bO (r:=1) hvw rfl jx aR rfl rfl (by omega) (by omega) rfl) ?_))));refine tp (de (v:=(.int .i64 (((s.id+2)%5)))) rfl Y3 rfl rfl (fQ 1 rfl hvw rfl) rfl) ?_;refine PS ?_;refine nx J11 (sr λ_ J12=>P2 ?_);refine FA 1939 dw aR ?_;refine LG 0 Y3 (.int .i64 (s.kept)) ?_ (hc:=by exact λa_=>(td _ rfl));refine PS ?_;refine tp (mB (r:=(s.kept.fdiv (2^min (((s.id+2)%5)).toNat IntKind.i64.bits))) rfl rfl rfl (by omega) rfl) ?_;refine tp (wK (r:=((s.kept.fdiv (2^min (((s.id+2)%5)).toNat IntKind.i64.bits))%2)) rfl rfl rfl (mask (k:=1) (by decide) _)) ?_;refine PS ?_;refine aq ?_ ?_<;>intro h33;refine nx J12 (CY (af (P3 ?_)));refine LW 2 bj cp aJ ?_;refine CZ jM (oW V r s ([SaidT.mk ((s.id+1)%5) (MsgT.mk 0 s.id s.own 0 0 BallotT.zero BallotT.zero ChangeT.zero ViewT.zero)]) ((s.id+2)%5) (MsgT.mk 0 s.id s.own 0 0 BallotT.zero BallotT.zero ChangeT.zero ViewT.zero) (by omega)) ID λvR=>?_
 refine ax (ai (ae J10 (af (tp (cN (r:=2) rfl rfl rfl (by decide)) ?_))));refine PS ?_;refine ax (eD (sr λ_ J13=>PS ?_));refine nx J13 (aa λ_ J14=>CN (aX (aC (aC (bq (WK [0] (bC rfl ?_)))))));exact MQ (by rw[eY,show qD (s.rep .nil)=[SaidT.mk ((s.id+1)%5) (MsgT.mk 0 s.id s.own 0 0 BallotT.zero BallotT.zero ChangeT.zero ViewT.zero)]++[SaidT.mk ((s.id+2)%5) (MsgT.mk 0 s.id s.own 0 0 BallotT.zero BallotT.zero ChangeT.zero ViewT.zero)]by rw[qD,iw,if_pos hid];simp[Cw,xN,MsgT.zero,Adr.nil, *]]);refine nx J12 (CN (aV (ai (ae J10 (af (tp (cN (r:=2) rfl rfl rfl (by decide)) ?_))))));refine PS ?_;refine ax (eD (sr λ_ J15=>PS ?_));refine nx J15 (aa λ_ J16=>CN (aX (aC (aC (bq (WK [0] (bC rfl ?_)))))));exact MQ (by rw[eY,show qD (s.rep .nil)=[SaidT.mk ((s.id+1)%5) (MsgT.mk 0 s.id s.own 0 0 BallotT.zero BallotT.zero ChangeT.zero ViewT.zero)]by rw[qD,iw,if_pos hid];simp[Cw,xN,MsgT.zero,Adr.nil, *]]);refine nx J7 (CN (aV (ai (ae J5 (af (tp (cN (r:=1) rfl rfl rfl (by decide)) ?_))))));refine PS ?_;refine ax (eD (sr λ_ J17=>PS ?_));refine nx J17 (aa λ_ J18=>CY (qx J18 (aa λ_ J19=>av (sr λ_ J20=>tp (bO (r:=1) hvw rfl jx aR rfl rfl (by omega) (by omega) rfl) ?_))));refine tp (de (v:=(.int .i64 (((s.id+2)%5)))) rfl Y3 rfl rfl (fQ 0 rfl hvw rfl) rfl) ?_;refine PS ?_;refine nx J20 (sr λ_ J21=>P2 ?_);refine FA 1939 dw aR ?_;refine LG 2 Y3 (.int .i64 (s.kept)) ?_ (hc:=by exact λa_=>(td _ rfl))
 refine PS ?_;refine tp (mB (r:=(s.kept.fdiv (2^min (((s.id+2)%5)).toNat IntKind.i64.bits))) rfl rfl rfl (by omega) rfl) ?_;refine tp (wK (r:=((s.kept.fdiv (2^min (((s.id+2)%5)).toNat IntKind.i64.bits))%2)) rfl rfl rfl (mask (k:=1) (by decide) _)) ?_;refine PS ?_;refine aq ?_ ?_<;>intro h33;refine nx J21 (CY (af (P3 ?_)));refine LW 1 bj cp aJ ?_;refine CZ jM (jX V r s ((s.id+2)%5) (MsgT.mk 0 s.id s.own 0 0 BallotT.zero BallotT.zero ChangeT.zero ViewT.zero) (by omega)) (SM [2]) λvR=>?_
 refine ax (ai (ae J19 (af (tp (cN (r:=2) rfl rfl rfl (by decide)) ?_))));refine PS ?_;refine ax (eD (sr λ_ J22=>PS ?_));refine nx J22 (aa λ_ J23=>CN (aX (aC (aC (bq (WK [0] (bC rfl ?_)))))));exact MQ (by rw[eY,show qD (s.rep .nil)=[SaidT.mk ((s.id+2)%5) (MsgT.mk 0 s.id s.own 0 0 BallotT.zero BallotT.zero ChangeT.zero ViewT.zero)]by rw[qD,iw,if_pos hid];simp[Cw,xN,MsgT.zero,Adr.nil, *]]);refine nx J21 (CN (aV (ai (ae J19 (af (tp (cN (r:=2) rfl rfl rfl (by decide)) ?_))))));refine PS ?_;refine ax (eD (sr λ_ J24=>PS ?_));refine nx J24 (aa λ_ J25=>CN (aX (aC (aC (bq (WK [2] (bC rfl ?_)))))));exact MQ (by rw[eY,show qD (s.rep .nil)=[]by rw[qD,iw,if_pos hid];simp[Cw,xN,MsgT.zero,Adr.nil, *]];exact(qP _ _).symm)
theorem nE{δ:Type}(V:Env δ)(r:Nat)(s:MS δ)(y:RowT)[OkR V.toDk s]:
 DT 88 #[(.pointer (some ⟨r,0,none⟩)),(.iface V.T V.ov),(.agg (ints y.flat).toArray)] T0 [cU V r s] (dA (λ_ H=>H=[cU V r (kO V.toDk s y)])):=by
 refine BD 27 Tryz.func88 rfl rfl rfl λw0 F hF=>sr λ_ J1=>XY (ints y.flat) λb5=>?_
 refine nx J1 (sr λ_ J2=>PS ?_);refine nx J2 (av ?_)
 refine bz (α:=(Nat)) (λk=>k≤5) (λk=>[(0,(.pointer (some ⟨r,0,none⟩))),(1,(.iface V.T V.ov)),(5,(.pointer (some ⟨b5,0,none⟩))),(7,(.int .i64 (((k:Nat):Int))))]) (λk=>[ak b5 (ints y.flat) 39,cU V r (ja V.toDk s (oY s.id (ug s.id y) (λ_=>true) k))]) (λk=>5-k) 0
  (aO _) SB
  (λ_ q=>by
  rw[show oY s.id (ug s.id y) (λ_=>true) 0=[]from rfl,qP]
  exact q) (λk hinv=>?_)
 obtain hk:=hinv;refine sr λ_ J3=>PS ?_
 refine aq ?_ ?_<;>intro h8;refine nx J3 (aa λ_ J4=>CY (qx J4 (aa λ_ J5=>av (sr λ_ J6=>P2 ?_))));refine nx J6 (sr λ_ J7=>P3 ?_);refine FA 0 dw aR ?_;refine LG 1 Y3 (.int .i64 (s.id)) ?_ (hc:=by exact λa_=>(cR _ rfl));refine PS ?_;refine aq ?_ ?_<;>intro h15;refine nx J7 (CY (DC mixed (db 1 rfl rfl) (BL 0) ?_));refine PD 0 ?_;refine PD 1 ?_;refine PD 2 ?_;refine PD 3 ?_;refine PD 4 ?_;refine FD 5 0 dw aR ?_;refine ta 6 rfl (dz (v:=(.int .i64 (s.id))) rfl Y3 rfl rfl (λ_ h=>h.2.1) (λa_=>(cR _ rfl))) ?_;refine LY 7 ec bg am ?_;refine ta 8 rfl (mI MsgT.zero (MsgT.mk 2 s.id y 0 0 BallotT.zero BallotT.zero ChangeT.zero ViewT.zero) [(0,[Value.int .i64 2]),(1,[Value.int .i64 s.id]),(2,ints y.flat)] bj bA (g:=MsgT.sg)) ?_;refine AL 9 ?_;refine CZ jM (oW V r s (oY s.id (ug s.id y) (λ_=>true) k) ((k:Nat):Int) (MsgT.mk 2 s.id y 0 0 BallotT.zero BallotT.zero ChangeT.zero ViewT.zero) h15) (SM [1]) λvR=>?_
 refine EN (DN (ai (ae J5 (af (AD ?_)))));refine PS ?_;refine ax ?_
 exact aM ((k+1):(Nat)) (by omega) (by show 5- (k+1)<5-k;omega)
  SB
  (λ_ q=>by
   rw[jl,if_pos ⟨h15,rfl⟩]
   exact an [1,0] rfl q)
 refine nx J7 (CN (aV (ai (ae J5 (af (AD ?_))))));refine PS ?_;refine ax ?_
 exact aM ((k+1):(Nat)) (by omega) (by show 5- (k+1)<5-k;omega)
  SB
  (λ_ q=>by
   rw[jl,if_neg (by omega)];rw[aL]
   exact an [0,0] rfl q)
 refine nx J3 (aa λ_ J8=>CN (aX (aC (aC (bq (WK [1] (bC rfl ?_)))))));obtain rfl:k=5:=by omega
 exact rfl
theorem nD{δ:Type}(V:Env δ)(r:Nat)(s:MS δ)(v:ViewT)[OkR V.toDk s]:
 DT 86 #[(.pointer (some ⟨r,0,none⟩)),(.iface V.T V.ov),(.agg (ints v.flat).toArray)] T0 [cU V r s] (dA (λ_ H=>H=[cU V r (lU V.toDk s v)])):=by
 refine BD 23 Tryz.func86 rfl rfl rfl λw0 F hF=>sr λ_ J1=>XY (ints v.flat) λb5=>?_
 refine nx J1 (sr λ_ J2=>PS ?_);refine nx J2 (av ?_)
 refine bz (α:=(Nat)) (λk=>k≤5) (λk=>[(0,(.pointer (some ⟨r,0,none⟩))),(1,(.iface V.T V.ov)),(5,(.pointer (some ⟨b5,0,none⟩))),(7,(.int .i64 (((k:Nat):Int))))]) (λk=>[ak b5 (ints v.flat) 32,cU V r (ja V.toDk s (oY s.id (kD v) (λ_=>true) k))]) (λk=>5-k) 0
  (aO _) SB
  (λ_ q=>by
  rw[show oY s.id (kD v) (λ_=>true) 0=[]from rfl,qP]
  exact q) (λk hinv=>?_)
 obtain hk:=hinv;refine sr λ_ J3=>PS ?_
 refine aq ?_ ?_<;>intro h8;refine nx J3 (aa λ_ J4=>CY (qx J4 (aa λ_ J5=>av (sr λ_ J6=>P2 ?_))));refine nx J6 (sr λ_ J7=>P3 ?_);refine FA 0 dw aR ?_;refine LG 1 Y3 (.int .i64 (s.id)) ?_ (hc:=by exact λa_=>(cR _ rfl));refine PS ?_;refine aq ?_ ?_<;>intro h15;refine nx J7 (CY (af (P3 ?_)));refine LW 0 eO bm ap ?_;refine tp (mI MsgT.zero (MsgT.mk 7 0 RowT.zero 0 0 BallotT.zero BallotT.zero ChangeT.zero v) [(0,[Value.int .i64 7]),(8,ints v.flat)] bj bA (g:=MsgT.sg)) ?_;refine CZ jM (oW V r s (oY s.id (kD v) (λ_=>true) k) ((k:Nat):Int) (MsgT.mk 7 0 RowT.zero 0 0 BallotT.zero BallotT.zero ChangeT.zero v) h15) (SM [1]) λvR=>?_
 refine ax (ai (ae J5 (af (AD ?_))));refine PS ?_;refine ax ?_
 exact aM ((k+1):(Nat)) (by omega) (by show 5- (k+1)<5-k;omega)
  SB
  (λ_ q=>by
   rw[jl,if_pos ⟨h15,rfl⟩]
   exact an [1,0] rfl q)
 refine nx J7 (CN (aV (ai (ae J5 (af (AD ?_))))));refine PS ?_;refine ax ?_
 exact aM ((k+1):(Nat)) (by omega) (by show 5- (k+1)<5-k;omega)
  SB
  (λ_ q=>by
   rw[jl,if_neg (by omega)];rw[aL]
   exact an [0,0] rfl q)
 refine nx J3 (aa λ_ J8=>CN (aX (aC (aC (bq (WK [1] (bC rfl ?_)))))));obtain rfl:k=5:=by omega
 exact rfl
theorem IC{δ:Type}(V:Env δ)(r lg:Nat)(x:RepT)(m:RecT)(e:δ)(l:List SaidT)(hlog:x.log= .pointer (some ⟨lg,0,none⟩))(hok:V.ok e):
 DT 114 #[(.pointer (some ⟨r,0,none⟩)),(.agg (ints m.flat).toArray)] T0 [ak r (RepT.cells x) 87,V.lg lg e,V.E e l] (RI (.int .i64 (V.pt e (gy m)).2) [ak r (RepT.cells x) 87,V.lg lg (V.pt e (gy m)).1,V.E (V.pt e (gy m)).1 l]):=by
 refine BD 12 Tryz.func114 rfl rfl rfl λw0 F hF=>sr λ_ J1=>XY (ints m.flat) λb3=>?_
 refine PS ?_;refine nx J1 (aa λ_ J2=>D2 1 0 mixed ?_);refine PD 0 ?_;refine PD 1 ?_;refine FD 2 1 dw Ri ?_;refine LX 3 Tryz.underlying74 (.pointer (some ⟨lg,0,none⟩)) ?_ (hc:=by exact(RepT.at_log x rfl).trans (congrArg some hlog));refine LY 4 en fW br ?_;refine AL 5 ?_;refine CR P0 (DM m) ID λvR HR hR=>?_
 obtain⟨_,rfl,rfl⟩:=hR;revert vR;intro ue;refine EN (AL 6 ?_);refine CF P5 (V.put lg ue (gy m) e l hok (uy m)) (SM [3,3]) (λg d s=>L6 (wX 0 rfl rfl g d s)) ?_;refine EN (PD 7 ?_);exact DN (ae J2 (aj (WK [4,0,0] (aw rfl rfl ⟨rfl,rfl⟩))))
theorem lX{δ:Type}(V:Env δ)(r:Nat)(s:MS δ)(m:RecT)[hs:OkR V.toDk s]:DT 114 #[.pointer (some ⟨r,0,none⟩), .agg (ints m.flat).toArray] T0 [cU V r s] (RI (.int .i64 (tY V.toDk s m)) [cU V r (dN V.toDk s m)]):=
 Leg.Does.pack λa=>Leg.Does.withinR (IC V r a.lg (s.rep a) m s.e s.o rfl hs.e) (λ_ _ _ _=>trivial) (λ_ q=>aD [0,0,2] rfl q) λv H hp=>by
  obtain⟨h1,rfl⟩:=hp;exact⟨_,λ_ q=>bv (p:=λa:Adr=>[ak r (RepT.cells ((dN V.toDk s m).rep a)) 87,V.lg a.lg (dN V.toDk s m).e,own a.rs (dN V.toDk s m).replies.length (ints ((dN V.toDk s m).replies.flatMap ReplyT.flat)) 47 3,GY a.vo (dN V.toDk s m).vote,V.E (dN V.toDk s m).e (dN V.toDk s m).o]) a (aD [0,0,1,1,0] rfl q),h1,rfl⟩
theorem fe{δ:Type}(V:Env δ)(r:Nat)(s:MS δ)(op err val:Int)(hrs:s.replies.length≤1000000):DT 74 #[.pointer (some ⟨r,0,none⟩), .int .i64 op, .int .i64 err, .int .i64 val] T0 [cU V r s] (dA (λ_ H=>H=[cU V r (dp s op err val)])):=
 Leg.Does.pack λa=>Leg.Does.withinR (FU r (s.rep a) op err val s.replies hrs) (λ_ _ _ _=>trivial) (λ_ q=>aD [0,1] rfl q) λv H hp=>by
  obtain⟨v',_,rfl⟩:=hp;exact⟨_,λ_ q=>bv (p:=λa:Adr=>[ak r (RepT.cells ((dp s op err val).rep a)) 87,V.lg a.lg (dp s op err val).e,own a.rs (dp s op err val).replies.length (ints ((dp s op err val).replies.flatMap ReplyT.flat)) 47 3,GY a.vo (dp s op err val).vote,V.E (dp s op err val).e (dp s op err val).o]) {a with rs:=v'} (aD [0,1,0,0,0] rfl q),rfl⟩
theorem sV{δ:Type}(V:Env δ)(r:Nat)(s:MS δ)(y:RowT)(op:Int)[OkR V.toDk s][OkRow y]:
 DT 75 #[(.pointer (some ⟨r,0,none⟩)),(.iface V.T V.ov),(.agg (ints y.flat).toArray),(.int .i64 (op))] T0 [cU V r s] (RI (.int .i64 (dX V.toDk s y op).2) [cU V r (dX V.toDk s y op).1]):=by
 refine BD 34 Tryz.func75 rfl rfl rfl λw0 F hF=>sr λ_ J1=>XY (ints y.flat) λb6=>?_
 refine PS ?_;refine nx J1 (aa λ_ J2=>sr λ_ J3=>PS ?_);refine LW 0 ec bg am ?_;refine tp (mI RecT.zero (RecT.mk 0 0 y 0 BallotT.zero ChangeT.zero ViewT.zero) [(0,[Value.int .i64 0]),(2,ints y.flat)] en fi (g:=RecT.sg)) ?_;refine CE yg (lX V r s (gL y)) (SM [1]) ?_;refine PS ?_;refine nx J3 (sr λ_ J4=>P2 ?_);refine aq ?_ ?_<;>intro h15;refine nx J4 (CY (sr λ_ J5=>P2 ?_));refine nx J5 (aj (ag (WK [0] (aw rfl rfl ?_))));have e:dX V.toDk s y op=(dN V.toDk s (gL y),tY V.toDk s (gL y)):=if_pos h15;exact j8 e;refine nx J4 (CN (qx J2 (sr λ_ J6=>P4 ?_)));refine LW 1 ec bg am ?_;refine P2 ?_;refine FA 9 dw bg ?_;refine ir (vs:=ints y.flat) (i:=0) (ab rfl) rfl rfl rfl rfl rfl (by rw[(am y)];exact bg) (bw _) rfl rfl (λ_=>LC (da _) (am _)) (λa_=>(Sr ((dN V.toDk s (gL y)).rep a_) 0 rfl (by have h1:=(am y);omega) (cC ((am (((dN V.toDk s (gL y)).rep a_).own)).trans (am y).symm)))) (PS ?_);refine FA 1938 dw lK ?_;refine SK 0 lK (λ_=>da _) ?_ (hc:=by exact λa_=>(R5 _ rfl _));refine PS ?_;refine FA 1939 dw aR ?_;refine SK 0 aR (λ_=>da _) ?_ (hc:=by exact λa_=>(R4 _ rfl _));refine PS ?_;refine FA 1940 dw aR ?_;refine SK 0 aR (λ_=>da _) ?_ (hc:=by exact λa_=>(RepT.set_waits _ rfl _));refine nx J6 (sr λ_ J7=>P2 ?_);refine CZ Ou (oD V r (q8 (dN V.toDk s (gL y)) y op)) ID λvR=>?_
 refine nx J7 (sr λ_ J8=>PS ?_);refine nx J8 (aj (WK [0] (aw rfl rfl ?_)));have e:dX V.toDk s y op=(eY V.toDk (q8 (dN V.toDk s (gL y)) y op),0):=if_neg h15;exact j8 e
theorem pX(x:RowT)(who:Int)(d:RowT):
 DT 131 #[(.agg (ints x.flat).toArray),(.int .i64 (who)),(.agg (ints d.flat).toArray)] T0 [] (RI (.tuple #[.agg (ints (cX x who d).1.flat).toArray, .int .i64 (cX x who d).2]) []):=by
 refine BD 68 Tryz.func131 rfl rfl rfl λw0 F hF=>sr λ_ J1=>XY (ints x.flat) λb3=>?_
 refine XY (ints d.flat) λb5=>?_
 refine XZ vD (ints RowT.zero.flat) λb6=>?_
 refine PS ?_;refine nx J1 (aa λ_ J2=>sr λ_ J3=>PS ?_);refine CE MF (kE who) ID ?_;refine bh ?_ ?_<;>intro h11;have hw:cO who=true:=by simpa using h11
 have hw2:0≤who∧who<5:=of_decide_eq_true hw;refine PS ?_;refine nx J3 (CN (qx J2 (aa λ_ J4=>sr λ_ J5=>PS ?_)));refine FA 29 ec e8 ?_;refine IX (29+who.toNat) ke aR ?_;refine LT 2 Y3 (.int .i64 ((x.heir[who.toNat]'(by omega)))) ?_ (hc:=by exact s9 x (who.toNat) (by omega) (by omega) (kN x.heir (by omega)));refine PS ?_;refine aq ?_ ?_<;>intro h18;refine nx J5 (CY (sr λ_ J6=>BV ((ints RowT.zero.flat).toArray) ?_));refine SW 0 bg am ?_;refine PS ?_;refine nx J6 (aj (ag (RT 0 [] ec bg (am _) ?_)));have e:cX x who d=(.zero,8):=by rw[cX,hw,fb,dif_pos hw,if_neg (by decide),if_pos h18]
 exact⟨by rw[e],rfl⟩;refine nx J5 (CN (qx J4 (aa λ_ J7=>D1 1 mixed ?_)));refine PD 0 ?_;refine PD 1 ?_;refine FD 2 0 ec aR ?_;refine LR 3 Y3 (cB d rfl) ?_;refine ta 4 rfl (cN (r:=(fR (d.version+1))) rfl rfl rfl rfl) ?_;refine FD 5 1 ec ma ?_;refine ta 6 rfl (aP (vs:=ints (bS d.cells.toList)) rfl CB rfl ma rfl (λ_ h=>h.2.1) (eu d.cells) (Fh d 0 rfl (by decide) (whole (eu d.cells)))) ?_;refine FD 7 29 ec e8 ?_;refine IY 8 (29+who.toNat) ke aR ?_;refine FD 10 34 ec C9 ?_;refine AL 9 ?_;refine bF (i:=2) (ab rfl) rfl rfl rfl rfl rfl aR rfl rfl (LB (am _)) (RowT.st_heir x (who.toNat) (by omega) (by omega) (Ac x.heir (by omega) _)) rfl (EN (IY 11 (34+who.toNat*28) N2 ma ?_));refine AL 12 ?_;refine bT (vs:=ints (bS d.cells.toList)) (i:=2) (ab rfl) rfl rfl rfl rfl rfl (by rw[(eu d.cells)];exact ma) (bw _) rfl rfl (LC (am _) (eu _)) (RowT.wr_left_ (RowT.mk x.version x.cells (x.heir.set who.toNat (fR (d.version+1)) (by omega)) x.left) (who.toNat*28) (by omega) (by have h1:=(eu d.cells);omega) (vF uQ x.left (i:=who.toNat) 0 (by omega) (by omega) (by have h1:=(eu d.cells);omega) (cC ((eu (x.left[who.toNat]'(by omega))).trans (eu d.cells).symm)))) rfl (EN (DN (ae J7 (aa λ_ J8=>sr λ_ J9=>FA 29 ec e8 ?_))));refine tp (aP (vs:=ints d.heir.toList) rfl ke rfl e8 rfl (RO 1) (dC d.heir) (R0 d 0 rfl (by decide) (whole (dC d.heir)))) ?_;refine PS ?_;refine nx J9 (av ?_)
 refine bz (α:=(Nat)×(RowT)) (λ⟨k,y⟩=>k≤5∧y=nT x who d k) (λ⟨k,y⟩=>[(1,(.int .i64 (who))),(3,(.pointer (some ⟨b3,0,none⟩))),(5,(.pointer (some ⟨b5,0,none⟩))),(6,(.pointer (some ⟨b6,0,none⟩))),(7,(.int .i64 0)),(32,(.agg (ints d.heir.toList).toArray)),(33,(.int .i64 (((k:Nat):Int))))]) (λ⟨k,y⟩=>[ak b6 (ints RowT.zero.flat) 39,ak b5 (ints d.flat) 39,ak b3 (ints y.flat) 39]) (λ⟨k,y⟩=>5-k) (0,(RowT.mk x.version x.cells (x.heir.set who.toNat (fR (d.version+1)) (by omega)) (x.left.set who.toNat d.cells (by omega))))
  ⟨aO _,by rw[nT,m5,dif_pos hw];rfl⟩ SB
  (λ_ s=>an [0,0,0] rfl s) (λ⟨k,y⟩ hinv=>?_)
 obtain⟨hk,hy⟩:=hinv;refine sr λ_ J10=>PS ?_
 refine aq ?_ ?_<;>intro h34;refine nx J10 (aa λ_ J11=>CY (qx J11 (aa λ_ J12=>av (sr λ_ J13=>PS ?_))));refine tp (mM (cs:=ints d.heir.toList) (v:=Value.int .i64 (d.heir[k]'(by omega))) (r:=k) rfl ke Y3 rfl aR rfl rfl (by omega) (by omega) (by omega) (kN d.heir (by omega))) ?_;refine P2 ?_;refine nx J13 (sr λ_ J14=>P3 ?_);refine aq ?_ ?_<;>intro h39;refine P3 ?_;refine aq ?_ ?_<;>intro h42;refine P3 ?_;refine FA 29 ec e8 ?_;refine IX (29+k) ke aR ?_;refine LT 2 Y3 (.int .i64 ((y.heir[k]'(by omega)))) ?_ (hc:=by exact s9 y k (by omega) (by omega) (kN y.heir (by omega)));refine PS ?_;refine aq ?_ ?_<;>intro h49;refine PS ?_;refine nx J14 (CY (D1 1 mixed ?_));refine PD 0 ?_;refine PD 1 ?_;refine PD 2 ?_;refine PD 3 ?_;refine FD 4 34 ec C9 ?_;refine IY 5 (34+k*28) N2 ma ?_;refine ta 6 rfl (aP (vs:=ints (bS (d.left[k]'(by omega)).toList)) rfl CB rfl ma rfl (λ_ h=>h.2.1) (eu (d.left[k]'(by omega))) (HK d (k*28) (by omega) (by omega) (k9 uQ d.left (i:=k) 0 (by omega) (by omega) (by decide) (whole (eu (d.left[k]'(by omega))))))) ?_;refine FD 7 29 ec e8 ?_;refine IY 8 (29+k) ke aR ?_;refine FD 10 34 ec C9 ?_;refine AL 9 ?_;refine bF (i:=2) (ab rfl) rfl rfl rfl rfl rfl aR rfl rfl (LB (am _)) (RowT.st_heir y k (by omega) (by omega) (Ac y.heir (by omega) _)) rfl (EN (IY 11 (34+k*28) N2 ma ?_));refine AL 12 ?_
 refine bT (vs:=ints (bS (d.left[k]'(by omega)).toList)) (i:=2) (ab rfl) rfl rfl rfl rfl rfl (by rw[(eu (d.left[k]'(by omega)))];exact ma) (bw _) rfl rfl (LC (am _) (eu _)) (RowT.wr_left_ (RowT.mk y.version y.cells (y.heir.set k (d.heir[k]'(by omega)) (by omega)) y.left) (k*28) (by omega) (by have h1:=(eu (d.left[k]'(by omega)));omega) (vF uQ y.left (i:=k) 0 (by omega) (by omega) (by have h1:=(eu (d.left[k]'(by omega)));omega) (cC ((eu (y.left[k]'(by omega))).trans (eu (d.left[k]'(by omega))).symm)))) rfl (EN (DN (ai (ae J12 (af (AD ?_))))));refine PS ?_;refine ax ?_
 exact aM ((k+1,(RowT.mk y.version y.cells (y.heir.set k (d.heir[k]'(by omega)) (by omega)) (y.left.set k (d.left[k]'(by omega)) (by omega)))):(Nat)×(RowT)) ⟨by omega,by rw[nS,←hy,nc,hJ _ (by omega),hJ _ (by omega),if_pos ⟨by omega,by omega,by omega⟩,FO _ (by omega),I8 _ (by omega)]⟩ (by show 5- (k+1)<5-k;omega)
  SB
  (λ_ s=>an [0,0,0] rfl s)
 refine PS ?_;refine nx J14 (CN (aV (ai (ae J12 (af (AD ?_))))));refine PS ?_;refine ax ?_
 exact aM ((k+1,y):(Nat)×(RowT)) ⟨by omega,by rw[nS,←hy,nc,hJ _ (by omega),hJ _ (by omega),if_neg (by omega)]⟩ (by show 5- (k+1)<5-k;omega)
  SB
  (λ_ s=>an [0,0,0] rfl s)
 refine P2 ?_
 iterate 5 refine UF ?_
 refine PS ?_;refine nx J14 (CN (aV (ai (ae J12 (af (AD ?_))))));refine PS ?_;refine ax ?_
 exact aM ((k+1,y):(Nat)×(RowT)) ⟨by omega,by rw[nS,←hy,nc,hJ _ (by omega),hJ _ (by omega),if_neg (by omega)]⟩ (by show 5- (k+1)<5-k;omega)
  SB
  (λ_ s=>an [0,0,0] rfl s)
 refine PS ?_;refine UF ?_;refine UF ?_;refine P2 ?_
 iterate 5 refine UF ?_
 refine PS ?_;refine nx J14 (CN (aV (ai (ae J12 (af (AD ?_))))));refine PS ?_;refine ax ?_
 exact aM ((k+1,y):(Nat)×(RowT)) ⟨by omega,by rw[nS,←hy,nc,hJ _ (by omega),hJ _ (by omega),if_neg (by omega)]⟩ (by show 5- (k+1)<5-k;omega)
  SB
  (λ_ s=>an [0,0,0] rfl s)
 refine nx J10 (aa λ_ J15=>CN (aX (aC (aC (bq (ae J8 (sr λ_ J16=>FA 0 ec aR ?_)))))));refine LU 2 Y3 (cB y rfl) ?_;refine tp (cN (r:=(fR (y.version+1))) rfl rfl rfl rfl) ?_;refine FA 0 ec aR ?_;refine bF (i:=2) (ab rfl) rfl rfl rfl rfl rfl aR rfl rfl (LB (am _)) (y3 y rfl _) rfl (nx J16 (sr λ_ J17=>LW 2 ec bg am ?_));refine SW 0 bg am ?_;refine PS ?_;refine nx J17 (aj (RT 0 [] ec bg (am _) ?_));obtain rfl:k=5:=by omega
 subst hy;have e:cX x who d=({nT x who d 5 with version:=fR ((nT x who d 5).version+1)},0):=by rw[cX,hw,fb,dif_pos hw,if_neg (by decide),if_neg h18]
 exact⟨by rw[e],rfl⟩;refine PS ?_;refine nx J3 (CY (sr λ_ J18=>BV ((ints RowT.zero.flat).toArray) ?_));refine SW 0 bg am ?_;refine PS ?_;refine nx J18 (aj (ag (RT 0 [] ec bg (am _) ?_)));have hw:cO who=false:=by simpa using h11
 have e:cX x who d=(.zero,5):=by rw[cX,hw];rfl
 exact⟨by rw[e],rfl⟩
theorem AS{δ:Type}(V:Env δ)(r:Nat)(s:MS δ)[OkR V.toDk s]:
 DT 129 #[(.pointer (some ⟨r,0,none⟩))] T0 [cU V r s] (dA (λr' H=>∃u,r'=u∧H=[own u (bE s).length (ints (bE s)) 3 1,cU V r s])):=by
 refine BD 44 Tryz.func129 rfl rfl rfl λw0 F hF=>sr λ_ J1=>PS ?_
 refine nx J1 (sr λ_ J2=>PS ?_);refine nx J2 (aa λ_ J3=>sr λ_ J4=>PS ?_);refine nx J4 (av ?_)
 refine bz (α:=(Nat)×(Value)) (λ⟨k,u⟩=>k≤5∧u.oneCell'=true) (λ⟨k,u⟩=>[(0,(.pointer (some ⟨r,0,none⟩))),(2,(.slice none 0 0)),(3,u),(7,(.int .i64 (((k:Nat):Int))))]) (λ⟨k,u⟩=>[own u ((iH s k).length) (ints (iH s k)) 3 1,cU V r s]) (λ⟨k,u⟩=>5-k) (0,(.slice none 0 0))
  ⟨aO _,rfl⟩ SB
  (λ_ s=>gI 3 1 (an [0] rfl s)) (λ⟨k,u⟩ hinv=>?_)
 obtain⟨hk,hu⟩:=hinv;have hol:=AR s k;refine sr λ_ J5=>PS ?_
 refine aq ?_ ?_<;>intro h8;refine nx J5 (aa λ_ J6=>CY (qx J6 (aa λ_ J7=>av (sr λ_ J8=>P2 ?_))));refine nx J8 (sr λ_ J9=>P2 ?_);refine FA 2 dw bm ?_;refine LZ 1 eO bm ap s.view ?_ (hc:=by exact λ_=>c9 _);refine PS ?_;refine CE MK (rQ s.view ((k:Nat):Int) OkVw.rng) ID ?_;refine P3 ?_;refine bh ?_ ?_<;>intro h18;refine P2 ?_;refine nx J9 (sr λ_ J10=>?_)
 iterate 5 refine PS ?_
 refine FA 0 dw aR ?_;refine LG 1 Y3 (.int .i64 (s.id)) ?_ (hc:=by exact λa_=>(cR _ rfl));refine PS ?_;refine aq ?_ ?_<;>intro h26
 iterate 5 refine PS ?_
 refine FA 9 dw bg ?_;refine FA 38 ec e8 ?_;refine IX (38+k) ke aR ?_;refine LG 1 Y3 (.int .i64 ((s.own.heir[k]'(by omega)))) ?_ (hc:=by exact λa_=>(RepT.pt_own (s.rep a_) (29+k) (by omega) (by omega) (s9 ((s.rep a_).own) k (by omega) (by omega) (kN (((s.rep a_).own).heir) (by omega)))));refine PS ?_;refine aq ?_ ?_<;>intro h36;refine PS ?_;refine nx J10 (CY (af (P2 ?_)));refine aT (cells:=#[(.int .i64 (((k:Nat):Int)))]) (ab rfl) rfl rfl rfl jx p2 rfl rfl rfl (by as_aux_lemma=>kernel_rfl) (λb40=>cF (k:=1) (news:=[(.int .i64 (((k:Nat):Int)))]) (nn':=(iH s k).length+1) (xs':=ints (iH s k)++[(.int .i64 (((k:Nat):Int)))]) (ab rfl) rfl rfl rfl jx p2 rfl rfl rfl rfl rfl rfl (λ_ _=>jB rfl (RO 0) rfl) (by simp[Value.oneCell']) (by simp only[maxLen];omega) (by omega) (by simp) (by simp) (λv41 ov41=>PS ?_));refine ax (ai (ae J7 (af (AD ?_))));refine PS ?_;refine ax ?_
 exact aM ((k+1,v41):(Nat)×(Value)) ⟨by omega,ov41⟩ (by show 5- (k+1)<5-k;omega)
  SB
  (λ_ q=>by
   show bH [own v41 (iH s (k+1)).length (ints (iH s (k+1))) 3 1,cU V r s] _;rw[show iH s (k+1)=iH s k++[((k:Nat):Int)]by rw[pM,if_pos (OQ h18 h26 (by rw[hJ _ (by omega)];exact h36))],ac,eC]
   exact an [1,1] rfl q)
 refine PS ?_;refine nx J10 (CN (aV (ai (ae J7 (af (AD ?_))))));refine PS ?_;refine ax ?_
 exact aM ((k+1,u):(Nat)×(Value)) ⟨by omega,hu⟩ (by show 5- (k+1)<5-k;omega)
  SB
  (λ_ q=>by
   show bH [own u (iH s (k+1)).length (ints (iH s (k+1))) 3 1,cU V r s] _;rw[show iH s (k+1)=iH s k by rw[pM,if_neg (by intro hq;have h2:=Cd hq;rw[hJ _ (by omega)]at h2;first|omega| (simp_all;done)| (simp_all;omega)),aL]]
   exact an [0,0] rfl q)
 refine P2 ?_
 iterate 8 refine UF ?_
 refine PS ?_;refine nx J10 (CN (aV (ai (ae J7 (af (AD ?_))))));refine PS ?_;refine ax ?_
 exact aM ((k+1,u):(Nat)×(Value)) ⟨by omega,hu⟩ (by show 5- (k+1)<5-k;omega)
  SB
  (λ_ q=>by
   show bH [own u (iH s (k+1)).length (ints (iH s (k+1))) 3 1,cU V r s] _;rw[show iH s (k+1)=iH s k by rw[pM,if_neg (by intro hq;have h2:=Cd hq;rw[hJ _ (by omega)]at h2;first|omega| (simp_all;done)| (simp_all;omega)),aL]]
   exact an [0,0] rfl q)
 refine P2 ?_;refine nx J9 (sr λ_ J11=>P2 ?_)
 iterate 6 refine UF ?_
 refine P2 ?_
 iterate 8 refine UF ?_
 refine PS ?_;refine nx J11 (CN (aV (ai (ae J7 (af (AD ?_))))));refine PS ?_;refine ax ?_
 exact aM ((k+1,u):(Nat)×(Value)) ⟨by omega,hu⟩ (by show 5- (k+1)<5-k;omega)
  SB
  (λ_ q=>by
   show bH [own u (iH s (k+1)).length (ints (iH s (k+1))) 3 1,cU V r s] _;rw[show iH s (k+1)=iH s k by rw[pM,if_neg (by intro hq;have h2:=Cd hq;rw[hJ _ (by omega)]at h2;first|omega| (simp_all;done)| (simp_all;omega)),aL]]
   exact an [0,0] rfl q)
 refine nx J5 (aa λ_ J12=>CN (aX (aC (aC (bq (ae J3 (sr λ_ J13=>P2 ?_)))))));refine nx J13 (aj (WK [0,0] (aw rfl rfl ?_)));obtain rfl:k=5:=by omega
 exact⟨u,rfl,rfl⟩
theorem oh{δ:Type}(V:Env δ)(r:Nat)(s:MS δ)(who w:Int)(hm:cO who=true)(hw:0≤w∧w<5):
 DT 130 #[(.pointer (some ⟨r,0,none⟩)),(.int .i64 (who)),(.int .i64 (w))] T0 [cU V r s] (RI (.bool (xk s who w)) [cU V r s]):=by
 refine BD 17 Tryz.func130 rfl rfl rfl λw0 F hF=>?_
 have hm2:0≤who∧who<5:=of_decide_eq_true hm;refine sr λ_ J1=>PS ?_
 refine nx J1 (sr λ_ J2=>P3 ?_);refine FA 1943 dw e8 ?_;refine IX (1943+who.toNat) ke aR ?_;refine LG 0 Y3 (.int .i64 ((s.told[who.toNat]'(by omega)))) ?_ (hc:=by exact λa_=>(Ss (s.rep a_) (who.toNat) (by omega) (by omega) (kN ((s.rep a_).told) (by omega))));refine PS ?_;refine tp (mB (r:=((s.told[who.toNat]'(by omega)).fdiv (2^min w.toNat IntKind.i64.bits))) rfl rfl rfl (by omega) rfl) ?_;refine tp (wK (r:=(((s.told[who.toNat]'(by omega)).fdiv (2^min w.toNat IntKind.i64.bits))%2)) rfl rfl rfl (mask (k:=1) (by decide) _)) ?_;refine P2 ?_;refine nx J2 (aj (WK [0] (aw rfl rfl ?_)));exact⟨by rw[xk,sC,dif_pos hm],rfl⟩
theorem pQ{δ:Type}(V:Env δ)(r:Nat)(s:MS δ)[OkR V.toDk s]:
    DT 84 #[(.pointer (some ⟨r,0,none⟩)),(.iface V.T V.ov)] T0 [cU V r s] (dA (λ_ H=>H=[cU V r (lC V.toDk s)])):=by
 refine BD 80 Tryz.func84 rfl rfl rfl λw0 F hF=>sr λ_ J1=>PS ?_
 refine CR NO (AS V r s) ID λvR HR hR=>?_
 obtain⟨_,rfl,rfl⟩:=hR;revert vR;intro ud;refine iV 0 rfl rfl (λhlud houd=>PS ?_);refine nx J1 (aa λ_ J2=>sr λ_ J3=>P2 ?_);refine FA 1938 dw lK ?_;refine LG 1 Y4 (.bool (s.busy)) ?_ (hc:=by exact λa_=>(zN _ rfl));refine bh ?_ ?_<;>intro h19;refine PS ?_
 iterate 3 refine UT ?_
 refine PS ?_;refine nx J3 (CY (aj (ag (WK [1] (dV rfl ?_)))));exact congrArg (λq=>[cU V r q]) (show s=lC V.toDk s from(if_pos (by rw[h19];rfl)).symm);refine P2 ?_;refine tq (dI rfl jx rfl hlud) ?_;refine PS ?_;refine aq ?_ ?_<;>intro h23;refine PS ?_;refine nx J3 (CY (aj (ag (WK [1] (dV rfl ?_)))));exact congrArg (λq=>[cU V r q]) (show s=lC V.toDk s from(if_pos (by rw[h19,decide_eq_true (by omega)];rfl)).symm);refine PS ?_;refine nx J3 (CN (qx J2 (aa λ_ J4=>sr λ_ J5=>PS ?_)));refine tp (dI rfl jx rfl hlud) ?_;refine PS ?_;refine nx J5 (av ?_)
 refine bz (α:=(Nat)) (λk=>k≤(bE s).length∧∀j,j<k→∀w∈iw ((bE s).getD j 0),xk s ((bE s).getD j 0) w=true) (λk=>[(0,(.pointer (some ⟨r,0,none⟩))),(1,(.iface V.T V.ov)),(4,ud),(25,ud),(26,(.int .i64 ((((bE s).length:Nat):Int)))),(27,(.int .i64 (((k:Nat):Int))))]) (λk=>[own ud ((bE s).length) (ints (bE s)) 3 1,cU V r s]) (λk=>(bE s).length-k) 0
     ⟨aO _,λj h=>absurd h (by omega)⟩ SB
     (λ_ s=>s) (λk hinv=>?_)
 obtain⟨hk,hal⟩:=hinv;refine sr λ_ J6=>PS ?_
 refine aq ?_ ?_<;>intro h28;refine nx J6 (aa λ_ J7=>CY (qx J7 (aa λ_ J8=>av (sr λ_ J9=>?_))));have hmm1:(bE s).getD k 0∈bE s:=by rw[List.getD_eq_getElem?_getD,List.getElem?_eq_getElem (by omega)];exact df _
 have hm1:cO ((bE s).getD k 0)=true:=(uB hmm1).1;have hn1:0≤(bE s).getD k 0∧(bE s).getD k 0<5:=of_decide_eq_true hm1;refine iI 0 rfl rfl (by omega) (λge1 ce1 he1 _=>tp (bO (r:=k) he1 rfl jx aR rfl rfl (by omega) (by omega) (by omega)) ?_);refine tp (de (v:=(.int .i64 (((bE s).getD k 0)))) rfl Y3 rfl rfl (fQ 0 rfl he1 rfl) (yy (by omega))) ?_;refine PS ?_;refine nx J9 (sr λ_ J10=>PS ?_);refine CR D3 (rB ((bE s).getD k 0) hm1) ID λvR HR hR=>?_
 obtain⟨_,rfl,rfl⟩:=hR;revert vR;intro uw;refine iV 0 rfl rfl (λhluw _=>iI 0 rfl rfl (by omega) (λgw capw hvw hcapw=>tp (dI rfl jx rfl hluw) ?_));refine PS ?_;refine nx J10 (av (ou 2 (sr λ_ J11=>PS ?_)));refine nx J11 (aa λ_ J12=>CY (qx J12 (aa λ_ J13=>av (sr λ_ J14=>tp (bO (r:=0) hvw rfl jx aR rfl rfl (by omega) (by omega) rfl) ?_))));refine tp (de (v:=(.int .i64 (((((bE s).getD k 0)+1)%5)))) rfl Y3 rfl rfl (fQ 0 rfl hvw rfl) rfl) ?_;refine PS ?_;refine nx J14 (sr λ_ J15=>P3 ?_);refine CE Hd (oh V r s ((bE s).getD k 0) ((((bE s).getD k 0)+1)%5) hm1 (by omega)) (SM [2]) ?_;refine bh ?_ ?_<;>intro h41;refine PS ?_;refine nx J15 (CN (aV (ai (ae J13 (af (tp (cN (r:=1) rfl rfl rfl (by decide)) ?_))))));refine PS ?_;refine ax (eD (sr λ_ J16=>PS ?_));refine nx J16 (aa λ_ J17=>CY (qx J17 (aa λ_ J18=>av (sr λ_ J19=>tp (bO (r:=1) hvw rfl jx aR rfl rfl (by omega) (by omega) rfl) ?_))));refine tp (de (v:=(.int .i64 (((((bE s).getD k 0)+2)%5)))) rfl Y3 rfl rfl (fQ 1 rfl hvw rfl) rfl) ?_;refine PS ?_;refine nx J19 (sr λ_ J20=>P3 ?_);refine CE Hd (oh V r s ((bE s).getD k 0) ((((bE s).getD k 0)+2)%5) hm1 (by omega)) ID ?_;refine bh ?_ ?_<;>intro h41;refine PS ?_;refine nx J20 (CN (aV (ai (ae J18 (af (tp (cN (r:=2) rfl rfl rfl (by decide)) ?_))))));refine PS ?_;refine ax (eD (sr λ_ J21=>PS ?_));refine nx J21 (aa λ_ J22=>CN (aX (aC (aC (bq (ai (ae J8 (af (AD ?_)))))))));refine PS ?_
 refine ax ?_
 exact aM ((k+1):(Nat)) ⟨by omega,λj hj=>by
        by_cases q:j=k
        · subst q
          intro w hw;rw[iw,if_pos hm1]at hw;simp only[cg,List.not_mem_nil,or_false]at hw;rcases hw with rfl|rfl<;>assumption
        · exact hal j (by omega)⟩ (by show(bE s).length- (k+1)< (bE s).length-k;omega)
   SB
   (λ_ s=>an [2,0] rfl s)
 refine PS ?_;refine nx J20 (CY (aj (aK (ag (ag (aK (aK (ag (ag (aK (ag ?_)))))))))));refine WK [0] (dV rfl ?_)
 have hb: ¬wQ s=true:=λh=>by
   have h2:=List.all_eq_true.1 (List.all_eq_true.1 h _ hmm1) (((bE s).getD k 0+2)%5) (by rw[iw,if_pos hm1];simp);rw[h41]at h2;cases h2
 exact MQ (by rw[lC,if_neg (by rw[h19,decide_eq_false (by omega)];decide),if_neg hb]);refine PS ?_;refine nx J15 (CY (aj (aK (ag (ag (aK (aK (ag (ag (aK (ag ?_)))))))))));refine WK [0] (dV rfl ?_)
 have hb: ¬wQ s=true:=λh=>by
   have h2:=List.all_eq_true.1 (List.all_eq_true.1 h _ hmm1) (((bE s).getD k 0+1)%5) (by rw[iw,if_pos hm1];simp);rw[h41]at h2;cases h2
 exact MQ (by rw[lC,if_neg (by rw[h19,decide_eq_false (by omega)];decide),if_neg hb]);refine nx J6 (aa λ_ J23=>CN (aX (aC (aC (bq (ae J4 (sr λ_ J24=>P2 ?_)))))));refine FA 9 dw bg ?_;refine LZ 1 ec bg am s.own ?_ (hc:=by exact λ_=>Fi _);refine XZ vD (ints RowT.zero.flat) λb9=>?_
 refine SW 0 bg am ?_;refine nx J24 (aa λ_ J25=>sr λ_ J26=>PS ?_);refine tp (dI rfl jx rfl hlud) ?_;refine PS ?_;refine nx J26 (av ?_)
 refine bz (α:=(Nat)×(RowT)) (λ⟨q,y⟩=>q≤(bE s).length∧y=nU s ((bE s).take q)) (λ⟨q,y⟩=>[(0,(.pointer (some ⟨r,0,none⟩))),(1,(.iface V.T V.ov)),(4,ud),(9,(.pointer (some ⟨b9,0,none⟩))),(49,ud),(50,(.int .i64 ((((bE s).length:Nat):Int)))),(51,(.int .i64 (((q:Nat):Int))))]) (λ⟨q,y⟩=>[ak b9 (ints y.flat) 39,own ud ((bE s).length) (ints (bE s)) 3 1,cU V r s]) (λ⟨q,y⟩=>(bE s).length-q) (0,s.own)
     ⟨aO _,rfl⟩ SB
     (λ_ s=>an [0,0,0] rfl s) (λ⟨q,y⟩ hinv=>?_)
 obtain⟨hq,hy⟩:=hinv;refine sr λ_ J27=>PS ?_
 refine aq ?_ ?_<;>intro h52;refine nx J27 (aa λ_ J28=>CY (qx J28 (aa λ_ J29=>av (sr λ_ J30=>?_))));have hmm2:(bE s).getD q 0∈bE s:=by rw[List.getD_eq_getElem?_getD,List.getElem?_eq_getElem (by omega)];exact df _
 have hm2:cO ((bE s).getD q 0)=true:=(uB hmm2).1;have hn2:0≤(bE s).getD q 0∧(bE s).getD q 0<5:=of_decide_eq_true hm2;refine iI 1 rfl rfl (by omega) (λge1 ce1 he1 _=>tp (bO (r:=q) he1 rfl jx aR rfl rfl (by omega) (by omega) (by omega)) ?_);refine tp (de (v:=(.int .i64 (((bE s).getD q 0)))) rfl Y3 rfl rfl (fQ 1 rfl he1 rfl) (yy (by omega))) ?_;refine PS ?_;refine nx J30 (aa λ_ J31=>sr λ_ J32=>PS ?_);refine FA 29 ec e8 ?_;refine IX (29+(((bE s).getD q 0)).toNat) ke aR ?_;refine LT 0 Y3 (.int .i64 ((y.heir[(((bE s).getD q 0)).toNat]'(by omega)))) ?_ (hc:=by exact s9 y ((((bE s).getD q 0)).toNat) (by omega) (by omega) (kN y.heir (by omega)));refine PS ?_;refine aq ?_ ?_<;>intro h59;refine nx J32 (CY (aX (aC (bq (ae J29 (af (AD ?_)))))));refine PS ?_;refine ax ?_
 exact aM ((q+1,y):(Nat)×(RowT)) ⟨by omega,by rw[wg s (by omega),←hy,if_pos (by rw[fb,dif_pos hm2];exact h59)]⟩ (by show(bE s).length- (q+1)< (bE s).length-q;omega)
   SB
   (λ_ s=>an [0,0,0] rfl s)
 refine nx J32 (CN (qx J31 (aa λ_ J33=>e7 (α:=(Nat)) (λ_=>True) (λb12=>[(0,(.pointer (some ⟨r,0,none⟩))),(1,(.iface V.T V.ov)),(4,ud),(9,(.pointer (some ⟨b9,0,none⟩))),(12,(.pointer (some ⟨b12,0,none⟩))),(13,(.int .i64 ((cX y ((bE s).getD q 0) (s.last[(((bE s).getD q 0)).toNat]'(by omega))).2))),(49,ud),(50,(.int .i64 ((((bE s).length:Nat):Int)))),(51,(.int .i64 (((q:Nat):Int))))]) (λb12=>[ak b12 (ints ((cX y ((bE s).getD q 0) (s.last[(((bE s).getD q 0)).toNat]'(by omega))).1).flat) 39,ak b9 (ints y.flat) 39,own ud ((bE s).length) (ints (bE s)) 3 1,cU V r s]) (λb12 _=>?_) (λtl33=>?_))));refine ae J33 (aa λ_ J34=>sr λ_ J35=>P2 ?_);refine aq ?_ ?_<;>intro h73
 · exact absurd (OJ hm2 (by rw[fb,dif_pos hm2];exact h59)) h73
 refine nx J35 (CN (qx J34 (af (LW 0 ec bg am ?_))));refine SW 1 bg am ?_;refine ax (ai (ae J29 (af (AD ?_))));refine PS ?_;refine ax ?_
 exact aM ((q+1,(cX y ((bE s).getD q 0) (s.last[(((bE s).getD q 0)).toNat]'(by omega))).1):(Nat)×(RowT)) ⟨by omega,by rw[wg s (by omega),←hy,if_neg (by rw[fb,dif_pos hm2];exact h59),lY,dif_pos hm2]⟩ (by show(bE s).length- (q+1)< (bE s).length-q;omega)
   SB
   (λ_ s=>an [1,1,1] rfl s)
 refine DC mixed (BL 0) (db 2 rfl rfl) ?_;refine LY 0 ec bg am ?_;refine PD 1 ?_;refine PD 2 ?_;refine PD 3 ?_;refine PD 4 ?_;refine FD 5 1948 dw uU ?_;refine IY 6 (1948+((((bE s).getD q 0)).toNat)*174) JC bg ?_;refine ta 7 rfl (gx (vs:=ints (s.last[(((bE s).getD q 0)).toNat]'(by omega)).flat) rfl ec rfl bg rfl (λ_ h=>h.2.2.1) (am (s.last[(((bE s).getD q 0)).toNat]'(by omega))) (λa_=>(RepT.sub_last (s.rep a_) (((((bE s).getD q 0)).toNat)*174) (by omega) (by omega) (k9 dO ((s.rep a_).last) (i:=(((bE s).getD q 0)).toNat) 0 (by omega) (by omega) (by decide) (whole (am (((s.rep a_).last)[(((bE s).getD q 0)).toNat]'(by omega)))))))) ?_;refine cZ [8,12] (by kernel_rfl) rfl (aG rfl ?_ ?_);refine CE NN (pX y ((bE s).getD q 0) (s.last[(((bE s).getD q 0)).toNat]'(by omega))) ID ?_;refine EN (PD 9 ?_);refine PD 10 ?_;refine PD 11 ?_;refine AL 12 ?_;refine XZ vD (ints RowT.zero.flat) λb12=>?_
 refine EN (AL 13 ?_);refine SW 0 bg am ?_;refine EN (PD 14 ?_);refine DN ?_
 exact aF
   SB
   (λ_ s=>s)
   (tl33 ((b12):(Nat)) trivial)
 refine aG rfl ?_ ?_;refine XZ vD (ints RowT.zero.flat) λb12=>?_
 refine EN (AL 8 ?_);refine CE NN (pX y ((bE s).getD q 0) (s.last[(((bE s).getD q 0)).toNat]'(by omega))) ID ?_;refine EN (PD 9 ?_);refine PD 10 ?_;refine PD 11 ?_;refine AL 13 ?_;refine SW 0 bg am ?_;refine EN (PD 14 ?_);refine DN ?_
 exact aF
   SB
   (λ_ s=>s)
   (tl33 ((b12):(Nat)) trivial)
 exact bM;refine nx J27 (aa λ_ J36=>CN (aX (aC (aC (bq (ae J25 (af ?_)))))));have hoy:OkRow y:=by rw[hy];exact inferInstance
 refine P2 ?_;refine LW 0 ec bg am ?_;refine CE Ov (sV V r s y 0) (SM [2]) ?_;refine ax (WK [0] (bC rfl ?_));obtain rfl:k=(bE s).length:=by omega
 obtain rfl:q=(bE s).length:=by omega
 have hb:wQ s=true:=List.all_eq_true.2 λi hi=>List.all_eq_true.2 λw hw=>by
   obtain⟨j,hj,rfl⟩:=fB hi;have h2:=hal j (by omega) w;rw[List.getD_eq_getElem?_getD,List.getElem?_eq_getElem hj]at h2;exact h2 hw
 rw[iX]at hy;subst hy;exact MQ (by rw[lC,if_neg (by rw[h19,decide_eq_false (by omega)];decide),if_pos hb])
theorem zA{δ:Type}(V:Env δ)(r:Nat)(s:MS δ)[OkR V.toDk s](hrs:s.replies.length≤1000000):
 DT 159 #[(.pointer (some ⟨r,0,none⟩)),(.iface V.T V.ov)] T0 [cU V r s] (dA (λ_ H=>H=[cU V r (kw V.toDk s)])):=by
 refine BD 43 Tryz.func159 rfl rfl rfl λw0 F hF=>sr λ_ J1=>P2 ?_
 refine FA 1938 dw lK ?_;refine SK 0 lK (λ_=>da _) ?_ (hc:=by exact λa_=>(R5 _ rfl _));refine nx J1 (aa λ_ J2=>e7 (α:=Unit) (λ_u=>True) (λ_u=>[(0,(.pointer (some ⟨r,0,none⟩))),(1,(.iface V.T V.ov))]) (λ_u=>[cU V r (gR s)]) (λ_u hinv=>?_) (λtl2=>?_));have _:=hinv;refine ae J2 (aa λ_ J3=>e7 (α:=Unit) (λ_u=>True) (λ_u=>[(0,(.pointer (some ⟨r,0,none⟩))),(1,(.iface V.T V.ov))]) (λ_u=>[cU V r (lM (gR s))]) (λ_u hinv=>?_) (λtl3=>?_));have _:=hinv;refine ae J3 (sr λ_ J4=>P4 ?_);refine FA 9 dw bg ?_;refine LZ 0 ec bg am ((lM (gR s)).own) ?_ (hc:=by exact λ_=>Fi _);refine CZ Oo (nE V r (lM (gR s)) ((lM (gR s)).own)) ID λvR=>?_
 refine nx J4 (af (P2 ?_));refine CZ MJ (pQ V r (kO V.toDk (lM (gR s)) ((lM (gR s)).own))) ID λvR=>?_
 exact ax (WK [0] (bC rfl rfl));refine sr λ_ J5=>P2 ?_
 refine FA 1940 dw aR ?_;refine LG 0 Y3 (.int .i64 ((gR s).waits)) ?_ (hc:=by exact λa_=>(RepT.at_waits _ rfl));refine PS ?_;refine aq ?_ ?_<;>intro h23;refine nx J5 (CY (sr λ_ J6=>P3 ?_));refine FA 1940 dw aR ?_;refine LG 0 Y3 (.int .i64 ((gR s).waits)) ?_ (hc:=by exact λa_=>(RepT.at_waits _ rfl));refine CZ vg (fe V r (gR s) ((gR s).waits) 0 0 hrs) ID λvR=>?_
 refine nx J6 (af (P2 ?_));refine FA 1940 dw aR ?_;refine SK 0 aR (λ_=>da _) ?_ (hc:=by exact λa_=>(RepT.set_waits _ rfl _));refine ax ?_
 exact aF
  SB
  (λ_ q=>by
   rw[zZ h23]
   exact an [0] rfl q)
  (tl3 (():Unit) trivial)
 refine nx J5 (CN (aV ?_))
 exact aF
  SB
  (λ_ q=>by
   rw[Aa h23]
   exact an [0] rfl q)
  (tl3 (():Unit) trivial)
 refine D0 mixed ?_;refine PD 0 ?_;refine PD 1 ?_;refine FD 2 1068 dw FL ?_;refine PD 3 ?_;refine PD 4 ?_;refine FD 5 0 dw aR ?_;refine PD 7 ?_;refine PD 8 ?_;refine FD 9 9 dw bg ?_;refine cZ [6,10] (by kernel_rfl) rfl (aG rfl ?_ ?_);refine LG 0 Y3 (.int .i64 (s.id)) ?_ (hc:=by exact λa_=>(cR _ rfl));refine EN (AL 10 ?_);refine LZ 0 ec bg am s.own ?_ (hc:=by exact λ_=>Fi _);refine EN (AL 11 ?_);refine CE ML (Leg.Does.hid (λa_=>lF r 1068 87 _ (ib ((MS.setBusy s false).rep a_)) (MS.setBusy s false).book s.id s.own (L4 inferInstance))) ID ?_;refine EN (DN ?_)
 exact aF
  SB
  (λ_ s=>an [0] rfl s)
  (tl2 (():Unit) trivial)
 refine aG rfl ?_ ?_;refine LZ 0 ec bg am s.own ?_ (hc:=by exact λ_=>Fi _);refine EN (AL 6 ?_);refine LG 0 Y3 (.int .i64 (s.id)) ?_ (hc:=by exact λa_=>(cR _ rfl));refine EN (AL 11 ?_);refine CE ML (Leg.Does.hid (λa_=>lF r 1068 87 _ (ib ((MS.setBusy s false).rep a_)) (MS.setBusy s false).book s.id s.own (L4 inferInstance))) ID ?_;refine EN (DN ?_)
 exact aF
  SB
  (λ_ s=>an [0] rfl s)
  (tl2 (():Unit) trivial)
 exact bM
theorem xn{δ:Type}(V:Env δ)(r:Nat)(s:MS δ)(from':Int)(m:MsgT)[OkR V.toDk s](hrs:s.replies.length≤1000000):
 DT 122 #[(.pointer (some ⟨r,0,none⟩)),(.iface V.T V.ov),(.int .i64 (from')),(.agg (ints m.flat).toArray)] T0 [cU V r s] (dA (λ_ H=>H=[cU V r (dv V.toDk s from' m)])):=by
 refine BD 64 Tryz.func122 rfl rfl rfl λw0 F hF=>?_
 have hid:cO s.id=true:=OkR.id;have hid2:0≤s.id∧s.id<5:=of_decide_eq_true hid;refine sr λ_ J1=>XY (ints m.flat) λb7=>?_
 refine nx J1 (sr λ_ J2=>P2 ?_);refine FA 0 dw aR ?_;refine LG 1 Y3 (.int .i64 (s.id)) ?_ (hc:=by exact λa_=>(cR _ rfl));refine CR D3 (rB s.id hid) ID λvR HR hR=>?_
 obtain⟨_,rfl,rfl⟩:=hR;revert vR;intro uw;refine iV 0 rfl rfl (λhluw _=>iI 0 rfl rfl (by omega) (λgw capw hvw hcapw=>PS ?_));refine nx J2 (aa λ_ J3=>aa λ_ J4=>DC mixed (db 2 rfl rfl) (BL 1) ?_);refine PD 0 ?_;refine PD 1 ?_;refine FD 2 1938 dw lK ?_;refine ta 3 rfl (dz (v:=(.bool (s.busy))) rfl Y4 rfl rfl (λ_ h=>h.2.1) (λa_=>(zN _ rfl))) ?_;refine pj ?_ ?_<;>intro h19;refine PD 4 ?_;refine PD 5 ?_;refine FD 6 176 bj aR ?_;refine LR 7 Y3 (MsgT.at_version m rfl) ?_;refine PD 8 ?_;refine PD 9 ?_;refine FD 10 9 dw bg ?_;refine FD 11 9 ec aR ?_;refine tb 12 rfl (dz (v:=(.int .i64 (s.own.version))) rfl Y3 rfl rfl (λ_ h=>h.2.1) (λa_=>(RepT.pt_own (s.rep a_) 0 rfl (by decide) (cB _ rfl)))) ?_;refine PD 13 ?_;refine jA ?_ ?_<;>intro h29;refine PD 14 ?_;refine PD 15 ?_;refine NT 16 ?_;refine NT 17 ?_;refine NT 18 ?_;refine NT 19 ?_;refine PD 20 ?_;refine DN (ae J4 (CY (aj (ag (WK [2] (dV rfl ?_))))));have ew:iw s.id=[(s.id+1)%5,(s.id+2)%5]:=by rw[iw,if_pos hid]
 have e:lZ s from' m.version=false:=by rw[lZ,ew,decide_eq_false h29,ij,mH]
 exact congrArg (λq=>[cU V r q]) (show s=dv V.toDk s from' m by rw[dv,e];rfl);refine PD 14 ?_;refine PD 15 ?_;refine PD 16 ?_;refine PD 17 ?_;refine AL 18 ?_;refine CF NH (sn uw [(s.id+1)%5,(s.id+2)%5] from' (by decide:2≤1000000)) ID (rO (l:=[(s.id+1)%5,(s.id+2)%5]) 0 rfl rfl) ?_;refine aq ?_ ?_<;>intro h34;have hmem:=h34;simp only[cg,List.not_mem_nil,or_false]at hmem;have hfr:0≤from'∧from'<5:=by omega
 refine EN (PD 19 ?_);refine PD 20 ?_;refine DN (ae J4 (CN (qx J3 (aa λ_ J5=>D0 mixed ?_))));refine PD 0 ?_;refine PD 1 ?_;refine FD 2 1939 dw aR ?_;refine PD 4 ?_;refine ta 5 rfl (zP (r:=(dr from')) rfl rfl rfl (by omega) rfl) ?_;refine AL 3 ?_;refine LG 2 Y3 (.int .i64 (s.kept)) ?_ (hc:=by exact λa_=>(td _ rfl));refine EN (ta 6 rfl (L2 (r:=(jp .i64 s.kept (dr from'))) rfl rfl rfl rfl) ?_);refine PD 7 ?_;refine FD 8 1939 dw aR ?_;refine AL 9 ?_;refine SK 2 aR (λ_=>da _) ?_ (hc:=by exact λa_=>(R4 _ rfl _));refine EN (DN (ae J5 (aa λ_ J6=>sr λ_ J7=>PS ?_)));refine tp (dI rfl jx rfl hluw) ?_;refine PS ?_;refine nx J7 (av (ou 2 (sr λ_ J8=>PS ?_)));refine nx J8 (aa λ_ J9=>CY (qx J9 (aa λ_ J10=>av (sr λ_ J11=>tp (bO (r:=0) hvw rfl jx aR rfl rfl (by omega) (by omega) rfl) ?_))));refine tp (de (v:=(.int .i64 (((s.id+1)%5)))) rfl Y3 rfl rfl (fQ 0 rfl hvw rfl) rfl) ?_;refine PS ?_;refine nx J11 (sr λ_ J12=>P2 ?_);refine FA 1939 dw aR ?_;refine LG 2 Y3 (.int .i64 ((jp .i64 s.kept (dr from')))) ?_ (hc:=by exact λa_=>(td _ rfl));refine PS ?_;refine tp (mB (r:=((jp .i64 s.kept (dr from')).fdiv (2^min (((s.id+1)%5)).toNat IntKind.i64.bits))) rfl rfl rfl (by omega) rfl) ?_;refine tp (wK (r:=(((jp .i64 s.kept (dr from')).fdiv (2^min (((s.id+1)%5)).toNat IntKind.i64.bits))%2)) rfl rfl rfl (mask (k:=1) (by decide) _)) ?_;refine PS ?_;refine aq ?_ ?_<;>intro h59
 refine nx J12 (CY (aj (aK (ag (ag (aK (ag (WK [2] (dV rfl ?_)))))))));have ew:iw s.id=[(s.id+1)%5,(s.id+2)%5]:=by rw[iw,if_pos hid]
 have e:lZ s from' m.version=true:=by rw[lZ,h19,ew,decide_eq_true (show m.version=s.own.version by omega),decide_eq_true h34];rfl
 have e2:yD (iM s from')=false:=by rw[yD,show iw (iM s from').id=[(s.id+1)%5,(s.id+2)%5]from ew];simp only[List.all_cons,List.all_nil,Cw,iM, *,decide_true,decide_false,Sa,QZ,Sb,wN,ij,mH]
 exact congrArg (λq=>[cU V r q]) (show(MS.setKept s (jp .i64 s.kept (dr from')))=dv V.toDk s from' m by rw[dv,e,e2];rfl);refine nx J12 (CN (aV (ai (ae J10 (af (tp (cN (r:=1) rfl rfl rfl (by decide)) ?_))))));refine PS ?_;refine ax (eD (sr λ_ J13=>PS ?_));refine nx J13 (aa λ_ J14=>CY (qx J14 (aa λ_ J15=>av (sr λ_ J16=>tp (bO (r:=1) hvw rfl jx aR rfl rfl (by omega) (by omega) rfl) ?_))));refine tp (de (v:=(.int .i64 (((s.id+2)%5)))) rfl Y3 rfl rfl (fQ 0 rfl hvw rfl) rfl) ?_;refine PS ?_;refine nx J16 (sr λ_ J17=>P2 ?_);refine FA 1939 dw aR ?_;refine LG 2 Y3 (.int .i64 ((jp .i64 s.kept (dr from')))) ?_ (hc:=by exact λa_=>(td _ rfl));refine PS ?_;refine tp (mB (r:=((jp .i64 s.kept (dr from')).fdiv (2^min (((s.id+2)%5)).toNat IntKind.i64.bits))) rfl rfl rfl (by omega) rfl) ?_;refine tp (wK (r:=(((jp .i64 s.kept (dr from')).fdiv (2^min (((s.id+2)%5)).toNat IntKind.i64.bits))%2)) rfl rfl rfl (mask (k:=1) (by decide) _)) ?_;refine PS ?_;refine aq ?_ ?_<;>intro h59;refine nx J17 (CY (aj (aK (ag (ag (aK (ag (WK [2] (dV rfl ?_)))))))));have ew:iw s.id=[(s.id+1)%5,(s.id+2)%5]:=by rw[iw,if_pos hid]
 have e:lZ s from' m.version=true:=by rw[lZ,h19,ew,decide_eq_true (show m.version=s.own.version by omega),decide_eq_true h34];rfl
 have e2:yD (iM s from')=false:=by rw[yD,show iw (iM s from').id=[(s.id+1)%5,(s.id+2)%5]from ew];simp only[List.all_cons,List.all_nil,Cw,iM, *,decide_true,decide_false,Sa,QZ,Sb,wN,ij,mH]
 exact congrArg (λq=>[cU V r q]) (show(MS.setKept s (jp .i64 s.kept (dr from')))=dv V.toDk s from' m by rw[dv,e,e2];rfl);refine nx J17 (CN (aV (ai (ae J15 (af (tp (cN (r:=2) rfl rfl rfl (by decide)) ?_))))));refine PS ?_;refine ax (eD (sr λ_ J18=>PS ?_));refine nx J18 (aa λ_ J19=>CN (aX (aC (aC (bq (ae J6 (af (P2 ?_))))))));refine CZ PZ (zA V r (iM s from') hrs) (SM [2]) λvR=>?_
 refine ax (WK [0] (bC rfl ?_));have ew:iw s.id=[(s.id+1)%5,(s.id+2)%5]:=by rw[iw,if_pos hid]
 have e:lZ s from' m.version=true:=by rw[lZ,h19,ew,decide_eq_true (show m.version=s.own.version by omega),decide_eq_true h34];rfl
 have e2:yD (iM s from')=true:=by rw[yD,show iw (iM s from').id=[(s.id+1)%5,(s.id+2)%5]from ew];simp only[List.all_cons,List.all_nil,Cw,iM, *,decide_true,decide_false,Sa,QZ,Sb,wN,ij,mH]
 exact congrArg (λq=>[cU V r q]) (show(kw V.toDk (iM s from'))=dv V.toDk s from' m by rw[dv,e,e2];rfl);refine EN (PD 19 ?_);refine PD 20 ?_;refine DN (ae J4 (CY (aj (ag (WK [2] (dV rfl ?_))))));have ew:iw s.id=[(s.id+1)%5,(s.id+2)%5]:=by rw[iw,if_pos hid]
 have e:lZ s from' m.version=false:=by rw[lZ,ew,decide_eq_false h34];simp
 exact congrArg (λq=>[cU V r q]) (show s=dv V.toDk s from' m by rw[dv,e];rfl);refine PD 4 ?_;refine PD 5 ?_;refine NT 6 ?_;refine NT 7 ?_;refine NT 8 ?_;refine NT 9 ?_;refine NT 10 ?_;refine NT 11 ?_;refine NT 12 ?_;refine NT 13 ?_;refine PD 14 ?_;refine PD 15 ?_;refine NT 16 ?_;refine NT 17 ?_;refine NT 18 ?_;refine NT 19 ?_;refine PD 20 ?_;refine DN (ae J4 (CY (aj (ag (WK [2] (dV rfl ?_))))));have ew:iw s.id=[(s.id+1)%5,(s.id+2)%5]:=by rw[iw,if_pos hid]
 have e:lZ s from' m.version=false:=by rw[lZ,ew,h19];simp
 exact congrArg (λq=>[cU V r q]) (show s=dv V.toDk s from' m by rw[dv,e];rfl)
theorem zf{δ:Type}(V:Env δ)(r:Nat)(s:MS δ)(from':Int)(m:MsgT)[OkR V.toDk s][OkMg m](hto:from'≠s.id):
 DT 121 #[(.pointer (some ⟨r,0,none⟩)),(.iface V.T V.ov),(.int .i64 (from')),(.agg (ints m.flat).toArray)] T0 [cU V r s] (dA (λ_ H=>H=[cU V r (gH V.toDk s from' m)])):=by
 refine BD 56 Tryz.func121 rfl rfl rfl λw0 F hF=>sr λ_ J1=>XY (ints m.flat) λb7=>?_
 refine nx J1 (aa λ_ J2=>aa λ_ J3=>D1 0 mixed ?_);refine FD 0 1 bj aR ?_;refine LR 1 Y3 (cv m rfl) ?_;refine PD 2 ?_;refine PD 3 ?_;refine jA ?_ ?_<;>intro h11;refine PD 4 ?_;refine NT 5 ?_;refine NT 6 ?_;refine NT 7 ?_;refine NT 8 ?_;refine NT 9 ?_;refine NT 10 ?_;refine PD 11 ?_;refine DN (ae J3 (CY (aj (ag (WK [1] (dV rfl ?_))))));exact congrArg (λq=>[cU V r q]) (show _=gH V.toDk s from' m from(if_pos (.inl (by omega))).symm);refine PD 4 ?_;refine PD 5 ?_;refine PD 6 ?_;refine FD 7 183 dw uT ?_;refine FD 8 1 bj aR ?_;refine LR 9 Y3 (cv m rfl) ?_;refine AL 10 ?_;refine CE Oz (Leg.Does.hid (λa_=>nO r 183 87 _ (eg (s.rep a_)) s.mirror m.whose)) (SM [1]) ?_;refine bh ?_ ?_<;>intro h18;refine EN (PD 11 ?_);refine DN (ae J3 (CY (aj (ag (WK [0] (dV rfl ?_))))));exact congrArg (λq=>[cU V r q]) (show _=gH V.toDk s from' m from(if_pos (.inr h18)).symm);refine EN (PD 11 ?_);refine DN (ae J3 (CN (qx J2 (aa λ_ J4=>aa λ_ J5=>D1 1 mixed ?_))));refine PD 0 ?_;refine PD 1 ?_;refine FD 2 183 dw uT ?_;refine FD 3 1 bj aR ?_;refine LR 4 Y3 (cv m rfl) ?_;refine FD 5 2 bj bg ?_;refine ta 6 rfl (aP (vs:=ints m.row.flat) rfl ec rfl bg rfl (λ_ h=>h.2.1) (am m.row) (mO m 0 rfl (by decide) (whole (am m.row)))) ?_;refine AL 7 ?_;refine CE NJ (Leg.Does.hid (λa_=>sd r 183 87 _ (eg (s.rep a_)) s.mirror m.whose m.row (L4 inferInstance))) ID ?_;refine bh ?_ ?_<;>intro h27;refine EN (DN (ae J5 (CY (aa λ_ J6=>sr λ_ J7=>PS ?_))))
 refine FA 1 bj aR ?_;refine LU 1 Y3 (cv m rfl) ?_;refine FA 2 bj bg ?_;refine LV 1 ec bg am MsgT.sp_row (y:=m.row) ?_;refine tp (mI RecT.zero (RecT.mk 1 m.whose m.row 0 BallotT.zero ChangeT.zero ViewT.zero) [(0,[Value.int .i64 1]),(1,[Value.int .i64 m.whose]),(2,ints m.row.flat)] en fi (g:=RecT.sg)) ?_;refine CE yg (lX V r s (kd m.whose m.row)) ID ?_;refine PS ?_;refine aq ?_ ?_<;>intro h35;refine nx J7 (CY (aj (ag (ag (WK [0] (dV rfl ?_))))));have hn: ¬(m.whose≠from'∨fz s.mirror m.whose=true):=λh=>h.elim (λh=>by omega) (λh=>by rw[h18]at h;cases h)
 exact MQ (by rw[gH,if_neg hn,if_pos h27,if_pos h35]<;>rfl);refine nx J7 (CN (qx J6 (D1 1 mixed ?_)));refine PD 0 ?_;refine PD 1 ?_;refine FD 2 183 dw uT ?_;refine FD 3 1 bj aR ?_;refine LR 4 Y3 (cv m rfl) ?_;refine FD 5 2 bj bg ?_;refine ta 6 rfl (aP (vs:=ints m.row.flat) rfl ec rfl bg rfl (λ_ h=>h.2.1) (am m.row) (mO m 0 rfl (by decide) (whole (am m.row)))) ?_;refine AL 7 ?_;refine CE NU (Leg.Does.hid (λa_=>uk r 183 87 _ (eg ((dN V.toDk s (kd m.whose m.row)).rep a_)) (dN V.toDk s (kd m.whose m.row)).mirror m.whose m.row (L4 inferInstance))) ID ?_;refine EN (DN (ae J4 (D1 1 mixed ?_)));refine PD 0 ?_;refine PD 1 ?_;refine PD 2 ?_;refine PD 3 ?_;refine PD 4 ?_;refine FD 5 183 dw uT ?_;refine FD 6 1 bj aR ?_;refine LR 7 Y3 (cv m rfl) ?_;refine AL 8 ?_;refine CE KI (Leg.Does.hid (λa_=>mq r 183 87 _ (eg ((iz (dN V.toDk s (kd m.whose m.row)) m.whose m.row).rep a_)) (iz (dN V.toDk s (kd m.whose m.row)) m.whose m.row).mirror m.whose)) ID ?_;refine EN (ta 9 rfl (y5 (cs:=ints (dF (iz (dN V.toDk s (kd m.whose m.row)) m.whose m.row).mirror m.whose).flat) (v:=Value.int .i64 ((dF (iz (dN V.toDk s (kd m.whose m.row)) m.whose m.row).mirror m.whose).version)) rfl ec rfl Y3 rfl rfl (cB _ rfl)) ?_)
 refine ta 10 rfl (mI MsgT.zero (MsgT.mk 1 0 RowT.zero ((dF (iz (dN V.toDk s (kd m.whose m.row)) m.whose m.row).mirror m.whose).version) 0 BallotT.zero BallotT.zero ChangeT.zero ViewT.zero) [(0,[Value.int .i64 1]),(3,[Value.int .i64 ((dF (iz (dN V.toDk s (kd m.whose m.row)) m.whose m.row).mirror m.whose).version)])] bj bA (g:=MsgT.sg)) ?_;refine AL 11 ?_;refine CZ jM (jX V r (iz (dN V.toDk s (kd m.whose m.row)) m.whose m.row) from' (uo (dF (iz (dN V.toDk s (kd m.whose m.row)) m.whose m.row).mirror m.whose).version) hto) ID λvR=>?_
 refine EN (DN (WK [0] (bC rfl ?_)));have hn: ¬(m.whose≠from'∨fz s.mirror m.whose=true):=λh=>h.elim (λh=>by omega) (λh=>by rw[h18]at h;cases h)
 exact MQ (by rw[gH,if_neg hn,if_pos h27,if_neg h35]<;>rfl);refine EN (DN (ae J5 (CN (qx J4 (D1 1 mixed ?_)))));refine PD 0 ?_;refine PD 1 ?_;refine PD 2 ?_;refine PD 3 ?_;refine PD 4 ?_;refine FD 5 183 dw uT ?_;refine FD 6 1 bj aR ?_;refine LR 7 Y3 (cv m rfl) ?_;refine AL 8 ?_;refine CE KI (Leg.Does.hid (λa_=>mq r 183 87 _ (eg (s.rep a_)) s.mirror m.whose)) ID ?_;refine EN (ta 9 rfl (y5 (cs:=ints (dF s.mirror m.whose).flat) (v:=Value.int .i64 ((dF s.mirror m.whose).version)) rfl ec rfl Y3 rfl rfl (cB _ rfl)) ?_);refine ta 10 rfl (mI MsgT.zero (MsgT.mk 1 0 RowT.zero ((dF s.mirror m.whose).version) 0 BallotT.zero BallotT.zero ChangeT.zero ViewT.zero) [(0,[Value.int .i64 1]),(3,[Value.int .i64 ((dF s.mirror m.whose).version)])] bj bA (g:=MsgT.sg)) ?_;refine AL 11 ?_;refine CZ jM (jX V r s from' (uo (dF s.mirror m.whose).version) hto) ID λvR=>?_
 refine EN (DN (WK [0] (bC rfl ?_)));have hn: ¬(m.whose≠from'∨fz s.mirror m.whose=true):=λh=>h.elim (λh=>by omega) (λh=>by rw[h18]at h;cases h)
 exact MQ (by rw[gH,if_neg hn,if_neg (by rw[h27];decide)]<;>rfl)
theorem oU{δ:Type}(V:Env δ)(r:Nat)(s:MS δ)(from':Int)(m:MsgT)[OkR V.toDk s][OkMg m]:
 DT 125 #[(.pointer (some ⟨r,0,none⟩)),(.iface V.T V.ov),(.int .i64 (from')),(.agg (ints m.flat).toArray)] T0 [cU V r s] (dA (λ_ H=>H=[cU V r (eT V.toDk s from' m)])):=by
 refine BD 59 Tryz.func125 rfl rfl rfl λw0 F hF=>sr λ_ J1=>XY (ints m.flat) λb7=>?_
 refine nx J1 (aa λ_ J2=>e7 (α:=Unit) (λ_u=>True) (λ_u=>[(0,(.pointer (some ⟨r,0,none⟩))),(1,(.iface V.T V.ov))]) (λ_u=>[cU V r (if from'∈iw m.whose then tG s from' m.whose m.row else s)]) (λ_u hinv=>?_) (λtl2=>?_));have _:=hinv;refine ae J2 (af (P2 ?_));refine CZ MJ (pQ V r (if from'∈iw m.whose then tG s from' m.whose m.row else s)) ID λvR=>?_
 exact ax (WK [0] (bC rfl rfl));refine sr λ_ J3=>FA 1 bj aR ?_
 refine LU 0 Y3 (cv m rfl) ?_;refine CR D3 (qw m.whose) ID λvR HR hR=>?_
 obtain⟨_,rfl,rfl⟩:=hR;revert vR;intro uw;refine PS ?_;refine CF NH (sn uw (iw m.whose) from' (JO m.whose)) ID (rO (l:=(iw m.whose)) 0 rfl rfl) ?_;refine aq ?_ ?_<;>intro h12
 have hm:cO m.whose=true:=by
  unfold iw at h12;split at h12
  · assumption
  · cases h12
 have hm2:0≤m.whose∧m.whose<5:=of_decide_eq_true hm;have hta:sC s m.whose=s.told[m.whose.toNat]'(by omega):=by rw[sC,dif_pos hm]
 have hla:lY s m.whose=s.last[m.whose.toNat]'(by omega):=by rw[lY,dif_pos hm]
 have hf:0≤from'∧from'<5:=by
  rw[iw,if_pos hm]at h12;simp only[cg,List.not_mem_nil,or_false]at h12;omega
 refine nx J3 (CY (aa λ_ J4=>e7 (α:=Unit) (λ_u=>True) (λ_u=>[(0,(.pointer (some ⟨r,0,none⟩))),(1,(.iface V.T V.ov)),(2,(.int .i64 (from'))),(7,(.pointer (some ⟨b7,0,none⟩)))]) (λ_u=>[cU V r (mr s m.whose m.row),ak b7 (ints m.flat) 163]) (λ_u hinv=>?_) (λtl4=>?_)));have _:=hinv;refine ae J4 (D1 1 mixed ?_);refine PD 0 ?_;refine FD 1 1 bj aR ?_;refine LR 2 Y3 (cv m rfl) ?_;refine PD 3 ?_;refine FD 4 1943 dw e8 ?_;refine IY 5 (1943+(m.whose).toNat) ke aR ?_;refine PD 7 ?_;refine ta 8 rfl (zP (r:=(dr from')) rfl rfl rfl (by omega) rfl) ?_;refine PD 10 ?_;refine FD 11 1943 dw e8 ?_;refine AL 6 ?_;refine LG 0 Y3 (.int .i64 ((((mr s m.whose m.row).told)[(m.whose).toNat]'(by omega)))) ?_ (hc:=by exact λa_=>(Ss ((mr s m.whose m.row).rep a_) ((m.whose).toNat) (by omega) (by omega) (kN (((mr s m.whose m.row).rep a_).told) (by omega))));refine EN (ta 9 rfl (L2 (r:=(jp .i64 (s.told[m.whose.toNat]'(by omega)) (dr from'))) rfl rfl rfl rfl) ?_);refine IY 12 (1943+(m.whose).toNat) ke aR ?_;refine AL 13 ?_;refine SK 0 aR (λ_=>da _) ?_ (hc:=by exact λa_=>(RepT.st_told ((mr s m.whose m.row).rep a_) ((m.whose).toNat) (by omega) (by omega) (Ac (((mr s m.whose m.row).rep a_).told) (by omega) _)));refine EN (DN ?_)
 exact aF
  SB
  (λ_ q=>by
   rw[if_pos h12,show tG s from' m.whose m.row= {mr s m.whose m.row with told:=s.told.set m.whose.toNat (jp .i64 (s.told[m.whose.toNat]'(by omega)) (dr from')) (by omega)}by rw[tG,Dx,dif_pos hm,hta]]
   exact an [0] rfl q)
  (tl2 (():Unit) trivial)
 refine aa λ_ J5=>DC mixed (BL 1) (db 2 rfl rfl) ?_
 refine PD 0 ?_;refine FD 1 1 bj aR ?_;refine LR 2 Y3 (cv m rfl) ?_;refine PD 3 ?_;refine FD 4 1943 dw e8 ?_;refine IY 5 (1943+(m.whose).toNat) ke aR ?_;refine ta 6 rfl (dz (v:=(.int .i64 ((s.told[(m.whose).toNat]'(by omega))))) rfl Y3 rfl rfl (λ_ h=>h.2.2.1) (λa_=>(Ss (s.rep a_) ((m.whose).toNat) (by omega) (by omega) (kN ((s.rep a_).told) (by omega))))) ?_;refine PD 7 ?_;refine jA ?_ ?_<;>intro h20;refine PD 8 ?_;refine NT 9 ?_;refine NT 10 ?_;refine NT 11 ?_;refine NT 12 ?_;refine NT 13 ?_;refine NT 14 ?_;refine NT 15 ?_;refine NT 16 ?_;refine NT 17 ?_;refine NT 18 ?_;refine NT 19 ?_;refine NT 20 ?_;refine PD 21 ?_;refine DN (ae J5 (CY (D1 1 mixed ?_)));refine PD 0 ?_;refine FD 1 1 bj aR ?_;refine LR 2 Y3 (cv m rfl) ?_;refine FD 3 2 bj bg ?_;refine ta 4 rfl (aP (vs:=ints m.row.flat) rfl ec rfl bg rfl (λ_ h=>h.2.1) (am m.row) (mO m 0 rfl (by decide) (whole (am m.row)))) ?_;refine PD 5 ?_;refine FD 6 1948 dw uU ?_;refine IY 7 (1948+((m.whose).toNat)*174) JC bg ?_;refine AL 8 ?_;refine ir (vs:=ints m.row.flat) (i:=2) (ab rfl) rfl rfl rfl rfl rfl (by rw[(am m.row)];exact bg) (bw _) rfl rfl (λ_=>LC (da _) (am _)) (λa_=>(RepT.wr_last_ (s.rep a_) (((m.whose).toNat)*174) (by omega) (by have h1:=(am m.row);omega) (vF dO ((s.rep a_).last) (i:=(m.whose).toNat) 0 (by omega) (by omega) (by have h1:=(am m.row);omega) (cC ((am (((s.rep a_).last)[(m.whose).toNat]'(by omega))).trans (am m.row).symm))))) (EN (DN ?_))
 exact aF
  SB
  (λ_ q=>by
   rw[show mr s m.whose m.row= {s with last:=s.last.set m.whose.toNat m.row (by omega)}by rw[mr,if_pos (.inl (hta.trans h20)),Dx,dif_pos hm]]
   exact an [2,1] rfl q)
  (tl4 (():Unit) trivial)
 refine PD 8 ?_;refine FD 9 2 bj bg ?_;refine FD 10 2 ec aR ?_;refine LX 11 Y3 (.int .i64 (m.row.version)) ?_ (hc:=by exact MsgT.pt_row m 0 rfl (by decide) (cB m.row rfl));refine PD 12 ?_;refine FD 13 1 bj aR ?_;refine LR 14 Y3 (cv m rfl) ?_;refine PD 15 ?_;refine FD 16 1948 dw uU ?_;refine IY 17 (1948+((m.whose).toNat)*174) JC bg ?_;refine tb 18 rfl (bb (r:=1948+((m.whose).toNat)*174) rfl ec rfl aR rfl rfl) ?_;refine tb 19 rfl (dz (v:=(.int .i64 ((s.last[(m.whose).toNat]'(by omega)).version))) rfl Y3 rfl rfl (λ_ h=>h.2.2.1) (λa_=>(RepT.pt_last (s.rep a_) (((m.whose).toNat)*174) (by omega) (by omega) (oO dO ((s.rep a_).last) (i:=(m.whose).toNat) 0 (by omega) (by omega) (by decide) (cB _ rfl))))) ?_;refine PD 20 ?_;refine jA ?_ ?_<;>intro h33;refine PD 21 ?_;refine DN (ae J5 (CY (D1 1 mixed ?_)));refine PD 0 ?_;refine FD 1 1 bj aR ?_;refine LR 2 Y3 (cv m rfl) ?_;refine FD 3 2 bj bg ?_;refine ta 4 rfl (aP (vs:=ints m.row.flat) rfl ec rfl bg rfl (λ_ h=>h.2.1) (am m.row) (mO m 0 rfl (by decide) (whole (am m.row)))) ?_;refine PD 5 ?_;refine FD 6 1948 dw uU ?_;refine IY 7 (1948+((m.whose).toNat)*174) JC bg ?_;refine AL 8 ?_
 refine ir (vs:=ints m.row.flat) (i:=2) (ab rfl) rfl rfl rfl rfl rfl (by rw[(am m.row)];exact bg) (bw _) rfl rfl (λ_=>LC (da _) (am _)) (λa_=>(RepT.wr_last_ (s.rep a_) (((m.whose).toNat)*174) (by omega) (by have h1:=(am m.row);omega) (vF dO ((s.rep a_).last) (i:=(m.whose).toNat) 0 (by omega) (by omega) (by have h1:=(am m.row);omega) (cC ((am (((s.rep a_).last)[(m.whose).toNat]'(by omega))).trans (am m.row).symm))))) (EN (DN ?_))
 exact aF
  SB
  (λ_ q=>by
   rw[show mr s m.whose m.row= {s with last:=s.last.set m.whose.toNat m.row (by omega)}by rw[mr,if_pos (.inr (by rw[hla];omega)),Dx,dif_pos hm]]
   exact an [2,1] rfl q)
  (tl4 (():Unit) trivial)
 refine PD 21 ?_;refine DN (ae J5 (CN (aV ?_)))
 exact aF
  SB
  (λ_ q=>by
   rw[show mr s m.whose m.row= {s with last:=s.last}by rw[mr,if_neg (by rw[hta,hla];omega)]]
   exact an [2,1] rfl q)
  (tl4 (():Unit) trivial)
 refine nx J3 (CN (aV ?_))
 exact aF
  SB
  (λ_ q=>by
   rw[if_neg h12]
   exact an [2] rfl q)
  (tl2 (():Unit) trivial)
abbrev TK{δ:Type}(V:Env δ)(r f:Nat)(s:MS δ)(from':Int)(m:MsgT)(s':MS δ):Prop:=Leg.Does Tryz.prog f #[.pointer (some ⟨r,0,none⟩), .iface V.T V.ov, .int .i64 from', .agg (ints m.flat).toArray] (λ_=>True) [cU V r s] (dA (λ_ H=>H=[cU V r s']))
theorem pv{δ:Type}(V:Env δ)(r:Nat)(s s':MS δ)(from':Int)(m:MsgT)[OkMg m](h0:m.kind=0→TK V r 121 s from' m s')(h1:m.kind=1→TK V r 122 s from' m s')(h2:m.kind=2→A7 s m.whose m.row=s')(h7:m.kind=7→DT 123 #[.pointer (some ⟨r,0,none⟩), .iface V.T V.ov, .agg (ints m.view.flat).toArray] T0 [cU V r s] (dA (λv H=>(∃b,v= .bool b)∧H=[cU V r s'])))(h8:m.kind=8→TK V r 124 s from' m s')(h9:m.kind=9→TK V r 125 s from' m s')(hv:m.kind=3∨m.kind=4∨m.kind=5∨m.kind=6→TK V r 126 s from' m s')(hn:m.kind≠0∧m.kind≠1∧m.kind≠2∧m.kind≠7∧m.kind≠8∧m.kind≠9∧m.kind≠3∧m.kind≠4∧m.kind≠5∧m.kind≠6→s=s'):
 DT 82 #[(.pointer (some ⟨r,0,none⟩)),(.iface V.T V.ov),(.int .i64 (from')),(.agg (ints m.flat).toArray)] T0 [cU V r s] (dA (λ_ H=>H=[cU V r s'])):=by
 refine BD 65 Tryz.func82 rfl rfl rfl λw0 F hF=>sr λ_ J1=>XY (ints m.flat) λb7=>?_
 refine nx J1 (sr λ_ J2=>FA 0 bj aR ?_);refine LU 0 Y3 (eZ m rfl) ?_;refine nx J2 (av (sr λ_ J3=>PS ?_));refine aq ?_ ?_<;>intro h11;refine PS ?_;refine nx J3 (CY (af (P3 ?_)));refine LW 0 bj cp aJ ?_;refine CZ Qg ((h0 h11)) (SM [1]) λvR=>?_
 exact ax (ai (WK [0] (bC rfl rfl)));refine PS ?_;refine nx J3 (CN (sr λ_ J4=>PS ?_));refine aq ?_ ?_<;>intro h18;refine PS ?_;refine nx J4 (CY (af (P3 ?_)));refine LW 0 bj cp aJ ?_;refine CZ Qf ((h1 h18)) (SM [1]) λvR=>?_
 exact ax (ai (WK [0] (bC rfl rfl)));refine PS ?_;refine nx J4 (CN (sr λ_ J5=>PS ?_));refine aq ?_ ?_<;>intro h25;refine PS ?_;refine nx J5 (CY (D1 0 mixed ?_));refine PD 0 ?_;refine PD 1 ?_;refine FD 2 1068 dw FL ?_;refine FD 3 1 bj aR ?_;refine LR 4 Y3 (cv m rfl) ?_;refine FD 5 2 bj bg ?_;refine ta 6 rfl (aP (vs:=ints m.row.flat) rfl ec rfl bg rfl (λ_ h=>h.2.1) (am m.row) (mO m 0 rfl (by decide) (whole (am m.row)))) ?_;refine AL 7 ?_;refine CE ML (Leg.Does.hid (λa_=>lF r 1068 87 _ (ib (s.rep a_)) s.book m.whose m.row (L4 inferInstance))) (SM [1]) ?_;refine EN (DN (ai (WK [0] (bC rfl ?_))));exact congrArg (λq=>[cU V r q]) (h2 h25);refine PS ?_;refine nx J5 (CN (sr λ_ J6=>PS ?_));refine aq ?_ ?_<;>intro h35;refine PS ?_;refine nx J6 (CY (af (P2 ?_)));refine FA 185 bj bm ?_;refine LV 0 eO bm ap MsgT.sp_view (y:=m.view) ?_;refine CR KW ((h7 h35)) (SM [1]) λvR HR hR=>?_
 obtain⟨_,rfl⟩:=hR;exact ax (ai (WK [0] (bC rfl rfl)));refine PS ?_;refine nx J6 (CN (sr λ_ J7=>PS ?_));refine aq ?_ ?_<;>intro h42;refine PS ?_;refine nx J7 (CY (af (P3 ?_)));refine LW 0 bj cp aJ ?_;refine CZ Qe ((h8 h42)) (SM [1]) λvR=>?_
 exact ax (ai (WK [0] (bC rfl rfl)));refine PS ?_;refine nx J7 (CN (sr λ_ J8=>PS ?_));refine aq ?_ ?_<;>intro h49;refine PS ?_;refine nx J8 (CY (af (P3 ?_)));refine LW 0 bj cp aJ ?_;refine CZ Qd ((h9 h49)) (SM [1]) λvR=>?_
 exact ax (ai (WK [0] (bC rfl rfl)));refine PS ?_;refine nx J8 (CN (aa λ_ J9=>sr λ_ J10=>P2 ?_));refine aq ?_ ?_<;>intro h55;refine nx J10 (CY (qx J9 (CY (af (P3 ?_)))));refine LW 0 bj cp aJ ?_;refine CZ He ((hv (by omega))) (SM [1]) λvR=>?_
 exact ax (ai (WK [0] (bC rfl rfl)));refine nx J10 (CN (sr λ_ J11=>P2 ?_));refine aq ?_ ?_<;>intro h55;refine nx J11 (CY (qx J9 (CY (af (P3 ?_)))));refine LW 0 bj cp aJ ?_;refine CZ He ((hv (by omega))) (SM [1]) λvR=>?_
 exact ax (ai (WK [0] (bC rfl rfl)));refine nx J11 (CN (sr λ_ J12=>P2 ?_));refine aq ?_ ?_<;>intro h55;refine nx J12 (CY (qx J9 (CY (af (P3 ?_)))));refine LW 0 bj cp aJ ?_;refine CZ He ((hv (by omega))) (SM [1]) λvR=>?_
 exact ax (ai (WK [0] (bC rfl rfl)));refine nx J12 (CN (af (PS ?_)));refine aq ?_ ?_<;>intro h59;refine PS ?_;refine nx J9 (CY (af (P3 ?_)));refine LW 0 bj cp aJ ?_;refine CZ He ((hv (by omega))) (SM [1]) λvR=>?_
 exact ax (ai (WK [0] (bC rfl rfl)));refine PS ?_;refine nx J9 (CN (aV (ai (WK [1] (bC rfl ?_)))));exact congrArg (λq=>[cU V r q]) (hn ⟨h11,h18,h25,h35,h42,h49,by omega,by omega,by omega,by omega⟩)
theorem FJ{δ:Type}{V:Env δ}{r:Nat}{s s':MS δ}{from':Int}{m:MsgT}[OkMg m](hk:m.kind=9)(h:TK V r 125 s from' m s'):TK V r 82 s from' m s':=pv V r s s' from' m (λe=>by omega) (λe=>by omega) (λe=>by omega) (λe=>by omega) (λe=>by omega) (λ_=>h) (λe=>by omega) (λe=>by omega)
theorem FK{δ:Type}{V:Env δ}{r:Nat}{s s':MS δ}{from':Int}{m:MsgT}[OkMg m](hk:m.kind=8)(h:TK V r 124 s from' m s'):TK V r 82 s from' m s':=pv V r s s' from' m (λe=>by omega) (λe=>by omega) (λe=>by omega) (λe=>by omega) (λ_=>h) (λe=>by omega) (λe=>by omega) (λe=>by omega)
theorem pu{δ:Type}{V:Env δ}{r:Nat}{s s':MS δ}{from':Int}{m:MsgT}[OkMg m](hk:m.kind=3∨m.kind=4∨m.kind=5∨m.kind=6)(h:TK V r 126 s from' m s'):TK V r 82 s from' m s':=pv V r s s' from' m (λe=>by omega) (λe=>by omega) (λe=>by omega) (λe=>by omega) (λe=>by omega) (λe=>by omega) (λ_=>h) (λe=>by omega)
theorem xD{δ:Type}(V:Env δ)(r:Nat)(s:MS δ)(w:Int)(y:RowT)[OkR V.toDk s][OkRow y]:TK V r 82 s s.id (iC w y) (eT V.toDk s s.id (iC w y)):=FJ rfl (oU V r s s.id (iC w y))
theorem qG{δ:Type}(V:Env δ)(r:Nat)(s:MS δ)(s':MS δ)(from':Int)(m:MsgT)[OkR V.toDk s'][OkMg m](hl:DT 123 #[.pointer (some ⟨r,0,none⟩), .iface V.T V.ov, .agg (ints m.view.flat).toArray] T0 [cU V r s] (dA (λv H=>(∃b,v= .bool b)∧H=[cU V r s']))):
 DT 124 #[(.pointer (some ⟨r,0,none⟩)),(.iface V.T V.ov),(.int .i64 (from')),(.agg (ints m.flat).toArray)] T0 [cU V r s] (dA (λ_ H=>H=[cU V r (eL V.toDk s' from' m.whose)])):=by
 refine BD 64 Tryz.func124 rfl rfl rfl λw0 F hF=>sr λ_ J1=>XY (ints m.flat) λb7=>?_
 refine nx J1 (sr λ_ J2=>P2 ?_);refine FA 185 bj bm ?_;refine LV 0 eO bm ap MsgT.sp_view (y:=m.view) ?_;refine CR KW (hl) (SM [1]) λvR HR hR=>?_
 obtain⟨_,rfl⟩:=hR;refine nx J2 (aa λ_ J3=>aa λ_ J4=>DC mixed (db 0 rfl rfl) (BL 1) ?_);refine PD 0 ?_;refine PD 1 ?_;refine FD 2 2 dw bm ?_;refine ta 3 rfl (gx (vs:=ints s'.view.flat) rfl eO rfl bm rfl (λ_ h=>h.2.1) (ap s'.view) (λa_=>(gn (s'.rep a_) 0 rfl (by decide) (whole (ap ((s'.rep a_).view)))))) ?_;refine FD 4 1 bj aR ?_;refine LR 5 Y3 (cv m rfl) ?_;refine AL 6 ?_;refine CE MK (rQ s'.view m.whose OkVw.rng) ID ?_;refine EN (PD 7 ?_);refine PD 8 ?_;refine PD 9 ?_;refine pj ?_ ?_<;>intro h24;refine PD 10 ?_;refine PD 11 ?_;refine DN (ae J4 (sr λ_ J5=>PS ?_));refine PS ?_;refine P4 ?_;refine aq ?_ ?_<;>intro h30;refine PS ?_;refine nx J5 (CY (aj (ag (WK [0] (dV rfl ?_)))));exact MQ (by rw[eL,if_pos (λh=>h30 (by rw[h];rfl))]);refine PS ?_;refine nx J5 (CN (qx J3 (aa λ_ J6=>aa λ_ J7=>D1 1 mixed ?_)));refine PD 0 ?_;refine PD 1 ?_;refine FD 2 183 dw uT ?_;refine FD 3 1 bj aR ?_;refine LR 4 Y3 (cv m rfl) ?_;refine AL 5 ?_;refine CE Oz (Leg.Does.hid (λa_=>nO r 183 87 _ (eg (s'.rep a_)) s'.mirror m.whose)) ID ?_;refine bh ?_ ?_<;>intro h37;refine EN (PD 6 ?_);refine DN (ae J7 (CN (qx J6 (D1 1 mixed ?_))));refine PD 0 ?_;refine PD 1 ?_;refine PD 2 ?_;refine FD 3 1 bj aR ?_;refine LR 4 Y3 (cv m rfl) ?_;refine PD 5 ?_;refine PD 6 ?_;refine FD 7 183 dw uT ?_;refine FD 8 1 bj aR ?_;refine LR 9 Y3 (cv m rfl) ?_;refine AL 10 ?_;refine CE KI (Leg.Does.hid (λa_=>mq r 183 87 _ (eg (s'.rep a_)) s'.mirror m.whose)) ID ?_
 refine EN (ta 11 rfl (mI MsgT.zero (MsgT.mk 9 m.whose (dF s'.mirror m.whose) 0 0 BallotT.zero BallotT.zero ChangeT.zero ViewT.zero) [(0,[Value.int .i64 9]),(1,[Value.int .i64 m.whose]),(2,ints (dF s'.mirror m.whose).flat)] bj bA (g:=MsgT.sg)) ?_);refine AL 12 ?_;refine CZ jM (gK V r s' from' (iC m.whose (dF s'.mirror m.whose)) (λs=>eT V.toDk s s.id (iC m.whose (dF s.mirror m.whose))) (λ_=>xD V r s' m.whose _)) ID λvR=>?_
 refine EN (DN (WK [0] (bC rfl ?_)));exact MQ (by rw[eL,if_neg (λh=>h (vm h24 (by omega))),if_pos h37]);refine EN (PD 6 ?_);refine DN (ae J7 (CY (aa λ_ J8=>sr λ_ J9=>PS ?_)));refine FA 1 bj aR ?_;refine LU 1 Y3 (cv m rfl) ?_;refine tp (mI RecT.zero (RecT.mk 2 m.whose RowT.zero 0 BallotT.zero ChangeT.zero ViewT.zero) [(0,[Value.int .i64 2]),(1,[Value.int .i64 m.whose])] en fi (g:=RecT.sg)) ?_;refine CE yg (lX V r s' (jt m.whose)) ID ?_;refine PS ?_;refine aq ?_ ?_<;>intro h44;refine nx J9 (CY (aj (ag (ag (WK [0] (dV rfl ?_))))));exact MQ (by rw[eL,if_neg (λh=>h (vm h24 (by omega))),if_neg (by rw[h37];decide),if_pos h44]);refine nx J9 (CN (qx J8 (D1 1 mixed ?_)));refine PD 0 ?_;refine PD 1 ?_;refine FD 2 183 dw uT ?_;refine FD 3 1 bj aR ?_;refine LR 4 Y3 (cv m rfl) ?_;refine AL 5 ?_;refine CE NS (Leg.Does.hid (λa_=>uj r 183 87 _ (eg ((dN V.toDk s' (jt m.whose)).rep a_)) (dN V.toDk s' (jt m.whose)).mirror m.whose)) ID ?_;refine EN (DN (ae J6 (D1 1 mixed ?_)));refine PD 0 ?_;refine PD 1 ?_;refine PD 2 ?_;refine FD 3 1 bj aR ?_;refine LR 4 Y3 (cv m rfl) ?_;refine PD 5 ?_;refine PD 6 ?_;refine FD 7 183 dw uT ?_;refine FD 8 1 bj aR ?_;refine LR 9 Y3 (cv m rfl) ?_;refine AL 10 ?_;refine CE KI (Leg.Does.hid (λa_=>mq r 183 87 _ (eg ((lD (dN V.toDk s' (jt m.whose)) m.whose).rep a_)) (lD (dN V.toDk s' (jt m.whose)) m.whose).mirror m.whose)) ID ?_
 refine EN (ta 11 rfl (mI MsgT.zero (MsgT.mk 9 m.whose (dF (lD (dN V.toDk s' (jt m.whose)) m.whose).mirror m.whose) 0 0 BallotT.zero BallotT.zero ChangeT.zero ViewT.zero) [(0,[Value.int .i64 9]),(1,[Value.int .i64 m.whose]),(2,ints (dF (lD (dN V.toDk s' (jt m.whose)) m.whose).mirror m.whose).flat)] bj bA (g:=MsgT.sg)) ?_);refine AL 12 ?_;refine CZ jM (gK V r (lD (dN V.toDk s' (jt m.whose)) m.whose) from' (iC m.whose (dF (lD (dN V.toDk s' (jt m.whose)) m.whose).mirror m.whose)) (λs=>eT V.toDk s s.id (iC m.whose (dF s.mirror m.whose))) (λ_=>xD V r (lD (dN V.toDk s' (jt m.whose)) m.whose) m.whose _)) ID λvR=>?_
 refine EN (DN (WK [0] (bC rfl ?_)));exact MQ (by rw[eL,if_neg (λh=>h (vm h24 (by omega))),if_neg (by rw[h37];decide),if_neg h44]);refine PD 10 ?_;refine PD 11 ?_;refine DN (ae J4 (sr λ_ J10=>PS ?_));refine PS ?_;refine PS ?_
 iterate 3 refine UT ?_
 refine PS ?_;refine nx J10 (CY (aj (ag (WK [0] (dV rfl ?_)))));exact MQ (by rw[eL,if_pos (λh=>by rw[h]at h24;cases h24)])
section
variable {δ:Type} {V:Env δ} {r:Nat} {s:MS δ} {H:List HP} {h:Hl}
theorem Hi(q:bH (cU V r s::H) h): ∃vo,bH (w5 V r s vo::H) h:=by
 obtain⟨a,q1⟩:=fK q;exact⟨a.vo,bv (p:=λa':Nat×Value=>[ak r (RepT.cells (s.rep ⟨a'.1,a.vo,a'.2⟩)) 87,V.lg a'.1 s.e,own a'.2 s.replies.length (ints (s.replies.flatMap ReplyT.flat)) 47 3,V.E s.e s.o]) (a.lg,a.rs) (Kn (aD [3,0,0,0,0] rfl q1))⟩
theorem D7(q:bH (w5 V r s (.pointer none)::H) h):bH (cU V r {s with vote:=none}::H) h:=by
 obtain⟨a,q1⟩:=fK q;have q2:bH (GY (.pointer none) none::([ak r (RepT.cells (s.rep ⟨a.1, .pointer none,a.2⟩)) 87,V.lg a.1 s.e,own a.2 s.replies.length (ints (s.replies.flatMap ReplyT.flat)) 47 3,V.E s.e s.o]++H)) h:=⟨em,h,Fm h,(sj h).symm,rfl,q1⟩;exact bv (p:=λa:Adr=>[ak r (RepT.cells ({s with vote:=none}.rep a)) 87,V.lg a.lg {s with vote:=none}.e,own a.rs {s with vote:=none}.replies.length (ints ({s with vote:=none}.replies.flatMap ReplyT.flat)) 47 3,GY a.vo {s with vote:=none}.vote,V.E {s with vote:=none}.e {s with vote:=none}.o]) ⟨a.1, .pointer none,a.2⟩ (aD [1,1,1,0,0] rfl q2)
theorem ui(hv:s.vote=none)(q:bH (cU V r s::H) h):bH (w5 V r s (.pointer none)::H) h:=by
 obtain⟨a,q1⟩:=fK q;have q2:=aD [3,0,0,0,0] rfl q1;obtain⟨h1,h2,d,rfl,e,q3⟩:=q2;rw[hv]at e;have e':a.vo= .pointer none:=e;obtain⟨lg,vo,rs⟩:=a;obtain rfl:=e';rw[oj d];exact mg _ (bv (p:=λa':Nat×Value=>[ak r (RepT.cells (s.rep ⟨a'.1, .pointer none,a'.2⟩)) 87,V.lg a'.1 s.e,own a'.2 s.replies.length (ints (s.replies.flatMap ReplyT.flat)) 47 3,V.E s.e s.o]) (lg,rs) q3) d.symm
theorem nN{vt:VoteT}(hv:s.vote=some vt)(q:bH (cU V r s::H) h): ∃vb,bH (w5 V r s (.pointer (some ⟨vb,0,none⟩))::ak vb (VoteT.cells vt) 207::H) h:=by
 obtain⟨a,q1⟩:=fK q;have q2:=aD [3,0,0,0,0] rfl q1;obtain⟨h1,h2,d,rfl,e,q3⟩:=q2;rw[hv]at e;obtain⟨vb,e',e⟩:=e;obtain⟨lg,vo,rs⟩:=a;have e2:vo= .pointer (some ⟨vb,0,none⟩):=e';obtain rfl:=e2;refine⟨vb,eA (List.Perm.swap _ _ _) ?_⟩;exact⟨h1,h2,d,rfl,e,bv (p:=λa':Nat×Value=>[ak r (RepT.cells (s.rep ⟨a'.1, .pointer (some ⟨vb,0,none⟩),a'.2⟩)) 87,V.lg a'.1 s.e,own a'.2 s.replies.length (ints (s.replies.flatMap ReplyT.flat)) 47 3,V.E s.e s.o]) (lg,rs) q3⟩
theorem o6{vt:VoteT}{vb:Nat}(q:bH (w5 V r s (.pointer (some ⟨vb,0,none⟩))::ak vb (VoteT.cells vt) 207::H) h):bH (cU V r {s with vote:=some vt}::H) h:=by
 obtain⟨a,q1⟩:=fK q;have q2:bH ([ak r (RepT.cells (s.rep ⟨a.1, .pointer (some ⟨vb,0,none⟩),a.2⟩)) 87,V.lg a.1 s.e,own a.2 s.replies.length (ints (s.replies.flatMap ReplyT.flat)) 47 3,V.E s.e s.o]++(GY (.pointer (some ⟨vb,0,none⟩)) (some vt)::H)) h:=Ib (λ_ e=>⟨vb,rfl,e⟩) q1;exact bv (p:=λa:Adr=>[ak r (RepT.cells ({s with vote:=some vt}.rep a)) 87,V.lg a.lg {s with vote:=some vt}.e,own a.rs {s with vote:=some vt}.replies.length (ints ({s with vote:=some vt}.replies.flatMap ReplyT.flat)) 47 3,GY a.vo {s with vote:=some vt}.vote,V.E {s with vote:=some vt}.e {s with vote:=some vt}.o]) ⟨a.1, .pointer (some ⟨vb,0,none⟩),a.2⟩ (aD [0,0,0,1,0] rfl q2)
theorem o7{vt:VoteT}{vb:Nat}(hv:s.vote=some vt)(q:bH (w5 V r s (.pointer (some ⟨vb,0,none⟩))::ak vb (VoteT.cells vt) 207::H) h):bH (cU V r s::H) h:=by
 have q2:=o6 q
 rwa [show({s with vote:=some vt}:MS δ)=s by cases s;simp_all]at q2
end
theorem Eu{δ:Type}(V:Env δ)(r:Nat)(s:MS δ)(v:ViewT):
 DT 67 #[(.pointer (some ⟨r,0,none⟩)),(.agg (ints v.flat).toArray)] T0 [cU V r s] (dA (λ_ H=>H=[cU V r (lB s v)])):=by
 refine BD 20 Tryz.func67 rfl rfl rfl λw0 F hF=>sr λ_ J1=>XY (ints v.flat) λb3=>?_
 refine nx J1 (sr λ_ J2=>PS ?_);refine LW 0 eO bm ap ?_;refine PS ?_;refine FA 2 dw bm ?_;refine ir (vs:=ints v.flat) (i:=1) (ab rfl) rfl rfl rfl rfl rfl (by rw[(ap v)];exact bm) (bw _) rfl rfl (λ_=>LC (da _) (ap _)) (λa_=>(R2 (s.rep a_) 0 rfl (by have h1:=(ap v);omega) (cC ((ap ((s.rep a_).view)).trans (ap v).symm)))) (nx J2 (sr λ_ J3=>PS ?_));refine FA 0 eO aR ?_;refine LU 0 Y3 (be v rfl) ?_;refine tp (mI AccT.zero (AccT.mk v.epoch BallotT.zero BallotT.zero ChangeT.zero) [(0,[Value.int .i64 v.epoch])] qo po (g:=AccT.sg)) ?_;refine PS ?_;refine FA 1058 dw fV ?_;refine ir (vs:=ints (AccT.mk v.epoch BallotT.zero BallotT.zero ChangeT.zero).flat) (i:=1) (ab rfl) rfl rfl rfl rfl rfl (by rw[(bf (AccT.mk v.epoch BallotT.zero BallotT.zero ChangeT.zero))];exact fV) (bw _) rfl rfl (λ_=>LC (da _) (bf _)) (λa_=>(kW ((MS.setView s v).rep a_) 0 rfl (by have h1:=(bf (AccT.mk v.epoch BallotT.zero BallotT.zero ChangeT.zero));omega) (cC ((bf (((MS.setView s v).rep a_).acc)).trans (bf (AccT.mk v.epoch BallotT.zero BallotT.zero ChangeT.zero)).symm)))) (nx J3 (sr λ_ J4=>cz (λ_ q=>aD [1] rfl q) (Sf (H':=λvo:Value=>w5 V r (MS.setAcc (MS.setView s v) (AccT.mk v.epoch BallotT.zero BallotT.zero ChangeT.zero)) vo::[ak b3 (ints v.flat) 32]) (λ_ q=>Hi q) (λvo=>P2 ?_))));refine FA 1067 dw nF ?_;refine SK 0 nF (λ_=>da _) ?_ (hc:=by exact λa_=>(R3 _ rfl _))
 refine nx J4 (af (cz (H':=cU V r {{s with view:=v}with acc:= {AccT.zero with epoch:=v.epoch},vote:=none}::[ak b3 (ints v.flat) 32]) (λ_ q=>D7 (aD [0] rfl q)) (P2 ?_)));refine FA 1066 dw aR ?_;refine SK 0 aR (λ_=>da _) ?_ (hc:=by exact λa_=>(mz _ rfl _));exact ax (WK [0] (bC rfl rfl))
theorem vY{δ:Type}(V:Env δ)(r:Nat)(s:MS δ)(v:ViewT)[OkR V.toDk s][OkVw v](hcl: ¬v.epoch≤s.view.epoch→DT 85 #[.pointer (some ⟨r,0,none⟩), .iface V.T V.ov] T0 [cU V r (lB (dN V.toDk s (kC v)) v)] (dA (λ_ H=>H=[cU V r (pR V.toDk (lB (dN V.toDk s (kC v)) v))]))):
 DT 123 #[(.pointer (some ⟨r,0,none⟩)),(.iface V.T V.ov),(.agg (ints v.flat).toArray)] T0 [cU V r s] (RI (.bool (rN V.toDk s v)) [cU V r (gP V.toDk s v)]):=by
 refine BD 28 Tryz.func123 rfl rfl rfl λw0 F hF=>sr λ_ J1=>XY (ints v.flat) λb5=>?_
 refine PS ?_;refine nx J1 (aa λ_ J2=>aa λ_ J3=>DC mixed (BL 0) (db 1 rfl rfl) ?_);refine FD 0 0 eO aR ?_;refine LR 1 Y3 (be v rfl) ?_;refine PD 2 ?_;refine PD 3 ?_;refine FD 4 2 dw bm ?_;refine FD 5 2 eO aR ?_;refine ta 6 rfl (dz (v:=(.int .i64 (s.view.epoch))) rfl Y3 rfl rfl (λ_ h=>h.2.2.1) (λa_=>(cr (s.rep a_) 0 rfl (by decide) (be _ rfl)))) ?_;refine PD 7 ?_;refine jA ?_ ?_<;>intro h14;refine PD 8 ?_;refine NT 9 ?_;refine NT 10 ?_;refine NT 11 ?_;refine NT 12 ?_;refine NT 13 ?_;refine PD 14 ?_;refine DN (ae J3 (CY (sr λ_ J4=>PS ?_)));refine nx J4 (aj (ag (WK [1] (aw rfl rfl ?_))));have e:gP V.toDk s v=s:=by rw[gP,if_pos h14]
 exact⟨by rw[rN,decide_eq_false (by omega),ij],congrArg (λq=>[cU V r q]) e.symm⟩;refine PD 8 ?_;refine PD 9 ?_;refine LY 10 eO bm ap ?_;refine tb 11 rfl (mI RecT.zero (RecT.mk 5 0 RowT.zero 0 BallotT.zero ChangeT.zero v) [(0,[Value.int .i64 5]),(6,ints v.flat)] en fi (g:=RecT.sg)) ?_;refine AL 12 ?_;refine CE yg (lX V r s (kC v)) (SM [1]) ?_;refine EN (PD 13 ?_);refine jA ?_ ?_<;>intro h20;refine PD 14 ?_;refine DN (ae J3 (CY (sr λ_ J5=>PS ?_)));refine nx J5 (aj (ag (WK [0] (aw rfl rfl ?_))));have e:gP V.toDk s v=(dN V.toDk s (kC v)):=by rw[gP,if_neg h14,if_pos h20]
 exact⟨by rw[rN,decide_eq_true (by omega),decide_eq_false h20,wN],congrArg (λq=>[cU V r q]) e.symm⟩;refine PD 14 ?_;refine DN (ae J3 (CN (qx J2 (sr λ_ J6=>PS ?_))));refine LW 1 eO bm ap ?_;refine CZ Ow (Eu V r (dN V.toDk s (kC v)) v) ID λvR=>?_
 refine nx J6 (sr λ_ J7=>P2 ?_);refine CZ Ot ((hcl (by omega))) ID λvR=>?_
 refine nx J7 (sr λ_ J8=>PS ?_);refine nx J8 (aj (WK [0] (aw rfl rfl ?_)));have e:gP V.toDk s v=(pR V.toDk (lB (dN V.toDk s (kC v)) v)):=by rw[gP,if_neg h14,if_neg h20]
 exact⟨by rw[rN,decide_eq_true (by omega),decide_eq_true (by omega),wN],congrArg (λq=>[cU V r q]) e.symm⟩
theorem Ec{δ:Type}(V:Env δ)(r:Nat)(s:MS δ)(v:ViewT)[OkR V.toDk s][OkVw v](h:v.epoch≤s.view.epoch):DT 123 #[.pointer (some ⟨r,0,none⟩), .iface V.T V.ov, .agg (ints v.flat).toArray] T0 [cU V r s] (dA (λq H=>(∃b,q= .bool b)∧H=[cU V r s])):=
 (vY V r s v (λq=>absurd h q)).mono λe H hp=>by
  cases e with
  |returned q=>exact⟨⟨_,hp.1⟩,hp.2.trans (by rw[gP,if_pos h])⟩
  |panicked c=>exact hp.elim
  |outgrown=>exact hp.elim
theorem xE{δ:Type}(V:Env δ)(r:Nat)(s:MS δ)(i:Int)[OkR V.toDk s]:TK V r 82 s s.id (pA i s.view) (eL V.toDk s s.id i):=FK rfl (qG V r s s s.id (pA i s.view) (Ec V r s s.view (Int.le_refl _)))
theorem rh{δ:Type}(V:Env δ)(r:Nat)(s:MS δ)[OkR V.toDk s]:
 DT 85 #[(.pointer (some ⟨r,0,none⟩)),(.iface V.T V.ov)] T0 [cU V r s] (dA (λ_ H=>H=[cU V r (pR V.toDk s)])):=by
 refine BD 39 Tryz.func85 rfl rfl rfl λw0 F hF=>sr λ_ J1=>PS ?_
 refine CR NO (AS V r s) ID λvR HR hR=>?_
 obtain⟨_,rfl,rfl⟩:=hR;revert vR;intro ud;refine iV 0 rfl rfl (λhlud houd=>tp (dI rfl jx rfl hlud) ?_);refine PS ?_;refine nx J1 (av ?_)
 refine bz (α:=(Nat)) (λk=>k≤(bE s).length) (λk=>[(0,(.pointer (some ⟨r,0,none⟩))),(1,(.iface V.T V.ov)),(9,ud),(10,(.int .i64 ((((bE s).length:Nat):Int)))),(11,(.int .i64 (((k:Nat):Int))))]) (λk=>[own ud ((bE s).length) (ints (bE s)) 3 1,cU V r (gg V.toDk ((bE s).take k) s)]) (λk=>(bE s).length-k) 0
  (aO _) SB
  (λ_ s=>s) (λk hinv=>?_)
 obtain hk:=hinv;have hcl:OkR V.toDk (gg V.toDk ((bE s).take k) s):=vu _ _ inferInstance;refine sr λ_ J2=>PS ?_
 refine aq ?_ ?_<;>intro h12;refine nx J2 (aa λ_ J3=>CY (qx J3 (aa λ_ J4=>av (sr λ_ J5=>?_))));have hmm1:(bE s).getD k 0∈bE s:=by rw[List.getD_eq_getElem?_getD,List.getElem?_eq_getElem (by omega)];exact df _
 have hm1:cO ((bE s).getD k 0)=true:=(uB hmm1).1;have hn1:0≤(bE s).getD k 0∧(bE s).getD k 0<5:=of_decide_eq_true hm1;refine iI 0 rfl rfl (by omega) (λge1 ce1 he1 _=>tp (bO (r:=k) he1 rfl jx aR rfl rfl (by omega) (by omega) (by omega)) ?_);refine tp (de (v:=(.int .i64 (((bE s).getD k 0)))) rfl Y3 rfl rfl (fQ 0 rfl he1 rfl) (yy (by omega))) ?_;refine PS ?_;refine nx J5 (sr λ_ J6=>PS ?_);refine CR D3 (rB ((bE s).getD k 0) hm1) ID λvR HR hR=>?_
 obtain⟨_,rfl,rfl⟩:=hR;revert vR;intro uw;refine iV 0 rfl rfl (λhluw _=>iI 0 rfl rfl (by omega) (λgw capw hvw hcapw=>tp (dI rfl jx rfl hluw) ?_));refine PS ?_;refine nx J6 (av (ou 2 (sr λ_ J7=>PS ?_)));refine nx J7 (aa λ_ J8=>CY (qx J8 (aa λ_ J9=>e7 (α:=Unit) (λ_u=>True) (λ_u=>[(0,(.pointer (some ⟨r,0,none⟩))),(1,(.iface V.T V.ov)),(5,(.int .i64 (((bE s).getD k 0)))),(9,ud),(10,(.int .i64 ((((bE s).length:Nat):Int)))),(11,(.int .i64 (((k:Nat):Int)))),(16,uw),(17,(.int .i64 2)),(18,(.int .i64 0)),(19,(.bool true))]) (λ_u=>[cU V r (gz V.toDk (gg V.toDk ((bE s).take k) s) ((bE s).getD k 0) ((((bE s).getD k 0)+1)%5)),own uw (2) ([.int .i64 ((((bE s).getD k 0)+1)%5), .int .i64 ((((bE s).getD k 0)+2)%5)]) 3 1,own ud ((bE s).length) (ints (bE s)) 3 1]) (λ_u hinv=>?_) (λtl9=>?_))));have _:=hinv;refine ae J9 (af (tp (cN (r:=1) rfl rfl rfl (by decide)) ?_));refine PS ?_;refine ax (eD (sr λ_ J10=>PS ?_))
 refine nx J10 (aa λ_ J11=>CY (qx J11 (aa λ_ J12=>e7 (α:=Unit) (λ_u=>True) (λ_u=>[(0,(.pointer (some ⟨r,0,none⟩))),(1,(.iface V.T V.ov)),(5,(.int .i64 (((bE s).getD k 0)))),(9,ud),(10,(.int .i64 ((((bE s).length:Nat):Int)))),(11,(.int .i64 (((k:Nat):Int)))),(16,uw),(17,(.int .i64 2)),(18,(.int .i64 1)),(19,(.bool true)),(37,(.int .i64 1))]) (λ_u=>[cU V r (gz V.toDk (gz V.toDk (gg V.toDk ((bE s).take k) s) ((bE s).getD k 0) ((((bE s).getD k 0)+1)%5)) ((bE s).getD k 0) ((((bE s).getD k 0)+2)%5)),own uw (2) ([.int .i64 ((((bE s).getD k 0)+1)%5), .int .i64 ((((bE s).getD k 0)+2)%5)]) 3 1,own ud ((bE s).length) (ints (bE s)) 3 1]) (λ_u hinv=>?_) (λtl12=>?_))));have _:=hinv;refine ae J12 (af (tp (cN (r:=2) rfl rfl rfl (by decide)) ?_));refine PS ?_;refine ax (eD (sr λ_ J13=>PS ?_));refine nx J13 (aa λ_ J14=>CN (aX (aC (aC (bq (ai (ae J4 (af (AD ?_)))))))));refine PS ?_;refine ax ?_
 exact aM ((k+1):(Nat)) (by omega) (by show(bE s).length- (k+1)< (bE s).length-k;omega)
  SB
  (λ_ q=>by
   rw[ES V.toDk (by omega) s]
   exact an [2,0] rfl q)
 refine av (sr λ_ J15=>tp (bO (r:=1) hvw rfl jx aR rfl rfl (by omega) (by omega) rfl) ?_);refine tp (de (v:=(.int .i64 (((((bE s).getD k 0)+2)%5)))) rfl Y3 rfl rfl (fQ 1 rfl hvw rfl) rfl) ?_;refine PS ?_;refine nx J15 (sr λ_ J16=>P3 ?_);refine CE Hd (oh V r (gz V.toDk (gg V.toDk ((bE s).take k) s) ((bE s).getD k 0) ((((bE s).getD k 0)+1)%5)) ((bE s).getD k 0) ((((bE s).getD k 0)+2)%5) hm1 (by omega)) ID ?_;refine bh ?_ ?_<;>intro h25;refine PS ?_;refine nx J16 (CN (aV (ai ?_)))
 exact aF
  SB
  (λ_ q=>by
   rw[gz,if_pos h25]
   exact an [0,0,0] rfl q)
  (tl12 (():Unit) trivial)
 refine PS ?_;refine nx J16 (CY (af ?_))
 iterate 6 refine PS ?_
 refine FA 2 dw bm ?_;refine LZ 0 eO bm ap ((gz V.toDk (gg V.toDk ((bE s).take k) s) ((bE s).getD k 0) ((((bE s).getD k 0)+1)%5)).view) ?_ (hc:=by exact λ_=>c9 _);refine tp (mI MsgT.zero (MsgT.mk 8 ((bE s).getD k 0) RowT.zero 0 0 BallotT.zero BallotT.zero ChangeT.zero ((gz V.toDk (gg V.toDk ((bE s).take k) s) ((bE s).getD k 0) ((((bE s).getD k 0)+1)%5)).view)) [(0,[Value.int .i64 8]),(1,[Value.int .i64 ((bE s).getD k 0)]),(8,ints ((gz V.toDk (gg V.toDk ((bE s).take k) s) ((bE s).getD k 0) ((((bE s).getD k 0)+1)%5)).view).flat)] bj bA (g:=MsgT.sg)) ?_;refine CZ jM (gK V r (gz V.toDk (gg V.toDk ((bE s).take k) s) ((bE s).getD k 0) ((((bE s).getD k 0)+1)%5)) ((((bE s).getD k 0)+2)%5) (pA ((bE s).getD k 0) (gz V.toDk (gg V.toDk ((bE s).take k) s) ((bE s).getD k 0) ((((bE s).getD k 0)+1)%5)).view) (λs_=>eL V.toDk s_ s_.id ((bE s).getD k 0)) (λ_=>xE V r (gz V.toDk (gg V.toDk ((bE s).take k) s) ((bE s).getD k 0) ((((bE s).getD k 0)+1)%5)) ((bE s).getD k 0))) ID λvR=>?_
 refine ax (ai ?_)
 exact aF
  SB
  (λ_ q=>by
   rw[gz,if_neg (by rw[h25];decide)]
   exact an [0,0,0] rfl q)
  (tl12 (():Unit) trivial)
 refine av (sr λ_ J17=>tp (bO (r:=0) hvw rfl jx aR rfl rfl (by omega) (by omega) rfl) ?_);refine tp (de (v:=(.int .i64 (((((bE s).getD k 0)+1)%5)))) rfl Y3 rfl rfl (fQ 0 rfl hvw rfl) rfl) ?_;refine PS ?_;refine nx J17 (sr λ_ J18=>P3 ?_);refine CE Hd (oh V r (gg V.toDk ((bE s).take k) s) ((bE s).getD k 0) ((((bE s).getD k 0)+1)%5) hm1 (by omega)) (SM [2]) ?_;refine bh ?_ ?_<;>intro h25;refine PS ?_;refine nx J18 (CN (aV (ai ?_)))
 exact aF
  SB
  (λ_ q=>by
   rw[gz,if_pos h25]
   exact an [0,0,0] rfl q)
  (tl9 (():Unit) trivial)
 refine PS ?_;refine nx J18 (CY (af ?_))
 iterate 6 refine PS ?_
 refine FA 2 dw bm ?_;refine LZ 0 eO bm ap ((gg V.toDk ((bE s).take k) s).view) ?_ (hc:=by exact λ_=>c9 _);refine tp (mI MsgT.zero (MsgT.mk 8 ((bE s).getD k 0) RowT.zero 0 0 BallotT.zero BallotT.zero ChangeT.zero ((gg V.toDk ((bE s).take k) s).view)) [(0,[Value.int .i64 8]),(1,[Value.int .i64 ((bE s).getD k 0)]),(8,ints ((gg V.toDk ((bE s).take k) s).view).flat)] bj bA (g:=MsgT.sg)) ?_;refine CZ jM (gK V r (gg V.toDk ((bE s).take k) s) ((((bE s).getD k 0)+1)%5) (pA ((bE s).getD k 0) (gg V.toDk ((bE s).take k) s).view) (λs_=>eL V.toDk s_ s_.id ((bE s).getD k 0)) (λ_=>xE V r (gg V.toDk ((bE s).take k) s) ((bE s).getD k 0))) ID λvR=>?_
 refine ax (ai ?_)
 exact aF
  SB
  (λ_ q=>by
   rw[gz,if_neg (by rw[h25];decide)]
   exact an [0,0,0] rfl q)
  (tl9 (():Unit) trivial)
 refine nx J2 (aa λ_ J19=>CN (aX (aC (aC (bq (WK [1] (bC rfl ?_)))))));obtain rfl:k=(bE s).length:=by omega
 exact MQ (by rw[iX];rfl)
theorem vZ{δ:Type}(V:Env δ)(r:Nat)(s:MS δ)(v:ViewT)[OkR V.toDk s][OkVw v]:DT 123 #[.pointer (some ⟨r,0,none⟩), .iface V.T V.ov, .agg (ints v.flat).toArray] T0 [cU V r s] (RI (.bool (rN V.toDk s v)) [cU V r (gP V.toDk s v)]):=vY V r s v λ_=>rh V r _
theorem wc{δ:Type}(V:Env δ)(r:Nat)(s:MS δ)(v:ViewT)[OkR V.toDk s][OkVw v]:DT 123 #[.pointer (some ⟨r,0,none⟩), .iface V.T V.ov, .agg (ints v.flat).toArray] T0 [cU V r s] (dA (λq H=>(∃b,q= .bool b)∧H=[cU V r (gP V.toDk s v)])):=
 (vZ V r s v).mono λe H hp=>by
  cases e with
  |returned q=>exact⟨⟨_,hp.1⟩,hp.2⟩
  |panicked c=>exact hp.elim
  |outgrown=>exact hp.elim
theorem xm{δ:Type}(V:Env δ)(r:Nat)(s:MS δ)(from':Int)(m:MsgT)[OkR V.toDk s][OkMg m]:TK V r 124 s from' m (jj V.toDk s from' m):=qG V r s _ from' m (wc V r s m.view)
theorem Oe:Tryz.prog.eqGuardType Tryz.prog.depth 80=false:=by kernel_rfl
theorem Oc:Tryz.prog.keyTypeAt 6 80=true:=by kernel_rfl
theorem OM:rc Tryz.prog 6 80=some 2:=by kernel_rfl
theorem Jl:(match Tryz.prog.underlying 80 with|some (.struct _)|some (.array _ _)=>true|_=>false)=true:=by kernel_rfl
theorem Jx:Tryz.prog.cellsOf 80=2:=by kernel_rfl
theorem Rn:Tryz.prog.eqGuardType Tryz.prog.depth 82=false:=by kernel_rfl
theorem Rj:Tryz.prog.keyTypeAt 6 82=true:=by kernel_rfl
theorem RX:rc Tryz.prog 6 82=some 8:=by kernel_rfl
theorem Qv:(match Tryz.prog.underlying 82 with|some (.struct _)|some (.array _ _)=>true|_=>false)=true:=by kernel_rfl
theorem QC:Tryz.prog.cellsOf 82=8:=by kernel_rfl
theorem AF(a b:BallotT):
 DT 183 #[(.agg (ints a.flat).toArray),(.agg (ints b.flat).toArray)] T0 [] (RI (.bool (Eb a b)) []):=by
 refine BD 20 Tryz.func183 rfl rfl rfl λw0 F hF=>sr λ_ J1=>XY (ints a.flat) λb2=>?_
 refine XY (ints b.flat) λb3=>?_
 refine PS ?_;refine nx J1 (aa λ_ J2=>sr λ_ J3=>FA 0 kG aR ?_);refine LU 1 Y3 (fo a rfl) ?_;refine FA 0 kG aR ?_;refine LU 0 Y3 (fo b rfl) ?_;refine PS ?_;refine aq ?_ ?_<;>intro h9;refine nx J3 (CY (sr λ_ J4=>FA 0 kG aR ?_));refine LU 1 Y3 (fo a rfl) ?_;refine FA 0 kG aR ?_;refine LU 0 Y3 (fo b rfl) ?_;refine P2 ?_;refine nx J4 (aj (ag (WK [] (aw rfl rfl ?_))));exact⟨congrArg Value.bool (by simp[Eb, *]),rfl⟩;refine nx J3 (CN (qx J2 (sr λ_ J5=>FA 1 kG aR ?_)));refine LU 1 Y3 (BallotT.at_who a rfl) ?_;refine FA 1 kG aR ?_;refine LU 0 Y3 (BallotT.at_who b rfl) ?_;refine P2 ?_;refine nx J5 (aj (WK [] (aw rfl rfl ?_)));exact⟨congrArg Value.bool (by simp[Eb, *]),rfl⟩
theorem tW(a:AccT)(ep:Int)(b:BallotT):
 DT 165 #[(.agg (ints a.flat).toArray),(.int .i64 (ep)),(.agg (ints b.flat).toArray)] T0 [] (RI (.bool (Bc a ep b)) []):=by
 refine BD 22 Tryz.func165 rfl rfl rfl λw0 F hF=>sr λ_ J1=>XY (ints a.flat) λb3=>?_
 refine XY (ints b.flat) λb5=>?_
 refine PS ?_;refine nx J1 (sr λ_ J2=>PS ?_);refine FA 0 qo aR ?_;refine LU 1 Y3 (AccT.at_epoch a rfl) ?_;refine PS ?_;refine aq ?_ ?_<;>intro h10;refine PS ?_
 iterate 3 refine UT ?_
 refine P2 ?_
 iterate 4 refine UT ?_
 refine P2 ?_;refine nx J2 (aj (WK [] (aw rfl rfl ?_)));exact⟨congrArg Value.bool (by simp[Bc, *]),rfl⟩;refine PS ?_;refine FA 0 kG aR ?_;refine LU 0 Y3 (fo b rfl) ?_;refine PS ?_;refine aq ?_ ?_<;>intro h14;refine P2 ?_
 iterate 4 refine UT ?_
 refine P2 ?_;refine nx J2 (aj (WK [] (aw rfl rfl ?_)));exact⟨congrArg Value.bool (by simp[Bc, *]),rfl⟩;refine P2 ?_;refine LW 0 kG cH au ?_;refine FA 1 qo cH ?_;refine LV 1 kG cH au AccT.sp_vow (y:=a.vow) ?_;refine CE NB (AF b a.vow) ID ?_;refine P2 ?_;refine nx J2 (aj (WK [] (aw rfl rfl ?_)));exact⟨congrArg Value.bool (by simp[Bc, *]),rfl⟩
theorem oq(a:AccT)(ep:Int)(b:BallotT):
 DT 132 #[(.agg (ints a.flat).toArray),(.int .i64 (ep)),(.agg (ints b.flat).toArray)] T0 [] (RI (.tuple #[.agg (ints (cb a ep b).1.flat).toArray, .bool (cb a ep b).2]) []):=by
 refine BD 16 Tryz.func132 rfl rfl rfl λw0 F hF=>sr λ_ J1=>XY (ints a.flat) λb3=>?_
 refine XY (ints b.flat) λb5=>?_
 refine XZ JK (ints AccT.zero.flat) λb6=>?_
 refine PS ?_;refine nx J1 (aa λ_ J2=>sr λ_ J3=>LW 2 qo fV bf ?_);refine PS ?_;refine LW 1 kG cH au ?_;refine CE NG (tW a ep b) ID ?_;refine bh ?_ ?_<;>intro h11;refine nx J3 (CY (sr λ_ J4=>LW 2 qo fV bf ?_));refine SW 0 fV bf ?_;refine PS ?_;refine nx J4 (aj (ag (RT 0 [] qo fV (bf _) ?_)));exact⟨by rw[cb];simp_all,rfl⟩;refine nx J3 (CN (qx J2 (sr λ_ J5=>LW 1 kG cH au ?_)));refine FA 1 qo cH ?_;refine SP 2 cH au bf AccT.wp_vow ?_;refine nx J5 (sr λ_ J6=>LW 2 qo fV bf ?_);refine SW 0 fV bf ?_;refine PS ?_;refine nx J6 (aj (RT 0 [] qo fV (bf _) ?_));exact⟨by rw[cb];simp_all,rfl⟩
theorem wn(a:AccT)(ep:Int)(b:BallotT)(ch:ChangeT):
 DT 182 #[(.agg (ints a.flat).toArray),(.int .i64 (ep)),(.agg (ints b.flat).toArray),(.agg (ints ch.flat).toArray)] T0 [] (RI (.tuple #[.agg (ints (gZ a ep b ch).1.flat).toArray, .bool (gZ a ep b ch).2]) []):=by
 refine BD 22 Tryz.func182 rfl rfl rfl λw0 F hF=>sr λ_ J1=>XY (ints a.flat) λb4=>?_
 refine XY (ints b.flat) λb6=>?_
 refine XY (ints ch.flat) λb7=>?_
 refine XZ JK (ints AccT.zero.flat) λb8=>?_
 refine PS ?_;refine nx J1 (aa λ_ J2=>sr λ_ J3=>LW 3 qo fV bf ?_);refine PS ?_;refine LW 2 kG cH au ?_;refine CE NG (tW a ep b) ID ?_;refine bh ?_ ?_<;>intro h13;refine nx J3 (CY (sr λ_ J4=>LW 3 qo fV bf ?_));refine SW 0 fV bf ?_;refine PS ?_;refine nx J4 (aj (ag (RT 0 [] qo fV (bf _) ?_)));exact⟨by rw[gZ];simp_all,rfl⟩;refine nx J3 (CN (qx J2 (aa λ_ J5=>D2 2 1 mixed ?_)));refine LY 0 kG cH au ?_;refine LY 1 kG cH au ?_;refine LY 2 n5 fT aN ?_;refine FD 3 1 qo cH ?_;refine AL 4 ?_;refine SP 3 cH au bf AccT.wp_vow ?_;refine EN (FD 5 3 qo cH ?_);refine AL 6 ?_;refine SP 3 cH au bf AccT.wp_had ?_;refine EN (FD 7 5 qo fT ?_);refine AL 8 ?_;refine SP 3 fT aN bf AccT.wp_change ?_;refine EN (DN (ae J5 (sr λ_ J6=>LW 3 qo fV bf ?_)));refine SW 0 fV bf ?_;refine PS ?_;refine nx J6 (aj (RT 0 [] qo fV (bf _) ?_));exact⟨by rw[gZ];simp_all,rfl⟩
theorem mo(b:Int):
 DT 14 #[(.int .i64 (b))] T0 [] (dA (λr' H=>∃u,r'=u∧H=[own u (jy b).length (ints (jy b)) 3 1])):=by
 refine BD 19 Tryz.func14 rfl rfl rfl λw0 F hF=>sr λ_ J1=>PS ?_
 refine nx J1 (sr λ_ J2=>PS ?_);refine nx J2 (aa λ_ J3=>sr λ_ J4=>PS ?_);refine nx J4 (av ?_)
 refine bz (α:=(Nat)×(Value)) (λ⟨k,u⟩=>k≤5∧u.oneCell'=true) (λ⟨k,u⟩=>[(0,(.int .i64 (b))),(2,(.slice none 0 0)),(3,u),(5,(.int .i64 (((k:Nat):Int))))]) (λ⟨k,u⟩=>[own u ((kQ b k).length) (ints (kQ b k)) 3 1]) (λ⟨k,u⟩=>5-k) (0,(.slice none 0 0))
  ⟨aO _,rfl⟩ SB
  (λ_ s=>gI 3 1 (an [] rfl s)) (λ⟨k,u⟩ hinv=>?_)
 obtain⟨hk,hu⟩:=hinv;have hol:=uY b k;refine sr λ_ J5=>PS ?_
 refine aq ?_ ?_<;>intro h6;refine nx J5 (aa λ_ J6=>CY (qx J6 (aa λ_ J7=>av (sr λ_ J8=>P2 ?_))));refine nx J8 (sr λ_ J9=>P2 ?_);refine tp (mB (r:=(b.fdiv (2^min ((k:Nat):Int).toNat IntKind.i64.bits))) rfl rfl rfl (by omega) rfl) ?_;refine tp (wK (r:=((b.fdiv (2^min ((k:Nat):Int).toNat IntKind.i64.bits))%2)) rfl rfl rfl (mask (k:=1) (by decide) _)) ?_;refine PS ?_;refine aq ?_ ?_<;>intro h12;refine nx J9 (CY (af (P2 ?_)));refine aT (cells:=#[(.int .i64 (((k:Nat):Int)))]) (ab rfl) rfl rfl rfl jx p2 rfl rfl rfl (by as_aux_lemma=>kernel_rfl) (λb15=>cF (k:=1) (news:=[(.int .i64 (((k:Nat):Int)))]) (nn':=(kQ b k).length+1) (xs':=ints (kQ b k)++[(.int .i64 (((k:Nat):Int)))]) (ab rfl) rfl rfl rfl jx p2 rfl rfl rfl rfl rfl rfl (λ_ _=>jB rfl (RO 0) rfl) (by simp[Value.oneCell']) (by simp only[maxLen];omega) (by omega) (by simp) (by simp) (λv16 ov16=>PS ?_));refine ax (ai (ae J7 (af (AD ?_))));refine PS ?_;refine ax ?_
 exact aM ((k+1,v16):(Nat)×(Value)) ⟨by omega,ov16⟩ (by show 5- (k+1)<5-k;omega)
  SB
  (λ_ q=>by
   show bH [own v16 (kQ b (k+1)).length (ints (kQ b (k+1))) 3 1] _;rw[show kQ b (k+1)=kQ b k++[((k:Nat):Int)]by rw[xx,if_pos (by rw[Jz,decide_eq_true (by assumption)])],ac,eC]
   exact an [1] rfl q)
 refine nx J9 (CN (aV (ai (ae J7 (af (AD ?_))))));refine PS ?_;refine ax ?_
 exact aM ((k+1,u):(Nat)×(Value)) ⟨by omega,hu⟩ (by show 5- (k+1)<5-k;omega)
  SB
  (λ_ q=>by
   show bH [own u (kQ b (k+1)).length (ints (kQ b (k+1))) 3 1] _;rw[show kQ b (k+1)=kQ b k by rw[xx,if_neg (by rw[Jz,decide_eq_false (by assumption)];decide),aL]]
   exact an [0] rfl q)
 refine nx J5 (aa λ_ J10=>CN (aX (aC (aC (bq (ae J3 (sr λ_ J11=>P2 ?_)))))));refine nx J11 (aj (WK [0] (aw rfl rfl ?_)));obtain rfl:k=5:=by omega
 exact⟨u,rfl,rfl⟩
theorem BY(part all:Int):
 DT 192 #[(.int .i64 (part)),(.int .i64 (all))] T0 [] (RI (.bool (NY part all)) []):=by
 refine BD 15 Tryz.func192 rfl rfl rfl λw0 F hF=>sr λ_ J1=>PS ?_
 refine nx J1 (sr λ_ J2=>P2 ?_);refine tp (wK (r:=(uF .i64 part all)) rfl rfl rfl rfl) ?_;refine CR KV (mo (uF .i64 part all)) ID λvR HR hR=>?_
 obtain⟨_,rfl,rfl⟩:=hR;revert vR;intro us1;refine iV 0 rfl rfl (λhlus1 _=>?_);have hzus1:=uY (uF .i64 part all) 5;change (jy (uF .i64 part all)).length≤5 at hzus1;refine tp (dI rfl jx rfl hlus1) ?_;refine tp (Np (r:=(2* (((jy (uF .i64 part all)).length:Nat):Int))) rfl rfl rfl (bY (by omega) (by omega))) ?_;refine PS ?_;refine CR KV (mo all) ID λvR HR hR=>?_
 obtain⟨_,rfl,rfl⟩:=hR;revert vR;intro us2;refine iV 0 rfl rfl (λhlus2 _=>?_);have hzus2:=uY all 5;change (jy all).length≤5 at hzus2;refine tp (dI rfl jx rfl hlus2) ?_;refine P2 ?_;exact nx J2 (aj (WK [] (aw rfl rfl ⟨rfl,rfl⟩)))
theorem jS(v:ViewT)(bits:Int):
 DT 184 #[(.agg (ints v.flat).toArray),(.int .i64 (bits))] T0 [] (RI (.bool (hZ v bits)) []):=by
 refine BD 9 Tryz.func184 rfl rfl rfl λw0 F hF=>sr λ_ J1=>XY (ints v.flat) λb2=>?_
 refine PS ?_;refine nx J1 (sr λ_ J2=>PS ?_);refine FA 1 eO aR ?_;refine LU 0 Y3 (iU v rfl) ?_;refine CE PL (BY bits v.members) ID ?_;refine PS ?_;exact nx J2 (aj (WK [] (aw rfl rfl ⟨rfl,rfl⟩)))
theorem Bm(v:ViewT)(b:BallotT)(ch:ChangeT):
 DT 133 #[(.agg (ints v.flat).toArray),(.agg (ints b.flat).toArray),(.agg (ints ch.flat).toArray)] T0 [] (dA (λr' H=>∃vb,r'= .pointer (some ⟨vb,0,none⟩)∧H=[ak vb (VoteT.cells (jv v b ch)) 207])):=by
 refine BD 12 Tryz.func133 rfl rfl rfl λw0 F hF=>sr λ_ J1=>XY (ints v.flat) λb3=>?_
 refine XY (ints b.flat) λb4=>?_
 refine XY (ints ch.flat) λb5=>?_
 refine PS ?_;refine nx J1 (sr λ_ J2=>LW 2 eO bm ap ?_);refine LW 1 kG cH au ?_;refine LW 0 n5 fT aN ?_;refine tp (zS (cs:=VoteT.cells (VoteT.mk v b ch BallotT.zero 0 0 false)) (segs:=[ints ViewT.zero.flat,ints BallotT.zero.flat,ints ChangeT.zero.flat,ints BallotT.zero.flat,[Value.int .i64 0],[Value.int .i64 0],[Value.bool false]]) (res:=[ints v.flat,ints b.flat,ints ch.flat,ints BallotT.zero.flat,[Value.int .i64 0],[Value.int .i64 0],[Value.bool false]]) (parts:=[(0,ints v.flat),(1,ints b.flat),(2,ints ch.flat)]) rfl rfl j5 (by kernel_rfl) (by kernel_rfl) rfl (fw rfl ((ap v).trans (ap ViewT.zero).symm) (fw rfl ((au b).trans (au BallotT.zero).symm) (fw rfl ((aN ch).trans (aN ChangeT.zero).symm) mi))) (fM (VoteT.mk v b ch BallotT.zero 0 0 false)).symm) ?_;refine XY (VoteT.cells (VoteT.mk v b ch BallotT.zero 0 0 false)) λb11=>?_
 refine PS ?_;exact nx J2 (aj (WK [0] (aw rfl rfl ⟨b11,rfl,rfl⟩)))
theorem bN(vb:Nat)(v:VoteT):
 DT 134 #[(.pointer (some ⟨vb,0,none⟩))] T0 [ak vb (VoteT.cells v) 207] (RI (.agg (ints v.ballot.flat).toArray) [ak vb (VoteT.cells v) 207]):=by
 refine BD 7 Tryz.func134 rfl rfl rfl λw0 F hF=>sr λ_ J1=>XZ Q6 (ints BallotT.zero.flat) λb2=>?_
 refine nx J1 (sr λ_ J2=>P2 ?_);refine FA 7 j5 cH ?_;refine LV 1 kG cH au VoteT.sp_ballot (y:=v.ballot) ?_;refine SW 0 cH au ?_;refine nx J2 (aj (RC 0 [1] kG cH (au _) ?_));exact⟨rfl,rfl⟩
theorem du(vb:Nat)(v:VoteT):
 DT 89 #[(.pointer (some ⟨vb,0,none⟩))] T0 [ak vb (VoteT.cells v) 207] (RI (.agg (ints v.change.flat).toArray) [ak vb (VoteT.cells v) 207]):=by
 refine BD 7 Tryz.func89 rfl rfl rfl λw0 F hF=>sr λ_ J1=>XZ Q7 (ints ChangeT.zero.flat) λb2=>?_
 refine nx J1 (sr λ_ J2=>P2 ?_);refine FA 9 j5 fT ?_;refine LV 1 n5 fT aN VoteT.sp_change (y:=v.change) ?_;refine SW 0 fT aN ?_;refine nx J2 (aj (RC 0 [1] n5 fT (aN _) ?_));exact⟨rfl,rfl⟩
theorem oP(vb:Nat)(v:VoteT):
 DT 135 #[(.pointer (some ⟨vb,0,none⟩))] T0 [ak vb (VoteT.cells v) 207] (RI (.bool v.putting) [ak vb (VoteT.cells v) 207]):=by
 refine BD 7 Tryz.func135 rfl rfl rfl λw0 F hF=>sr λ_ J1=>PS ?_
 refine nx J1 (sr λ_ J2=>P2 ?_);refine FA 16 j5 lK ?_;refine LU 0 Y4 (mK v rfl) ?_;refine PS ?_;exact nx J2 (aj (WK [0] (aw rfl rfl ⟨rfl,rfl⟩)))
theorem Fy(vb:Nat)(v:VoteT)(who:Int)(b had:BallotT)(ch:ChangeT)(hb:WF b.flat)(hvb:WF v.ballot.flat):
 DT 162 #[(.pointer (some ⟨vb,0,none⟩)),(.int .i64 (who)),(.agg (ints b.flat).toArray),(.agg (ints had.flat).toArray),(.agg (ints ch.flat).toArray)] T0 [ak vb (VoteT.cells v) 207] (RI (.bool (eX v who b had ch).2) [ak vb (VoteT.cells (eX v who b had ch).1) 207]):=by
 refine BD 76 Tryz.func162 rfl rfl rfl λw0 F hF=>sr λ_ J1=>XY (ints b.flat) λb7=>?_
 refine XY (ints had.flat) λb8=>?_
 refine XY (ints ch.flat) λb9=>?_
 refine PS ?_;refine nx J1 (aa λ_ J2=>aa λ_ J3=>D2 3 2 mixed ?_);refine PD 0 ?_;refine PD 1 ?_;refine FD 2 16 j5 lK ?_;refine LR 3 Y4 (mK v rfl) ?_;refine pj ?_ ?_<;>intro h14;refine PD 4 ?_;refine NT 5 ?_;refine NT 6 ?_;refine NT 7 ?_;refine NT 8 ?_;refine NT 9 ?_;refine NT 10 ?_;refine PD 11 ?_;refine PD 12 ?_;refine NT 13 ?_;refine NT 14 ?_;refine NT 15 ?_;refine NT 16 ?_;refine NT 17 ?_;refine NT 18 ?_;refine NT 19 ?_;refine PD 20 ?_;refine DN (ae J3 (CY (sr λ_ J4=>PS ?_)));refine nx J4 (aj (ag (WK [3] (aw rfl rfl ?_))));have e:eX v who b had ch=(v,false):=by rw[eX,h14,if_pos (by rfl)]
 exact⟨congrArg (λq:VoteT×Bool=>Value.bool q.2) e.symm,congrArg (λq:VoteT×Bool=>[ak vb (VoteT.cells q.1) 207]) e.symm⟩;refine PD 4 ?_;refine LY 5 kG cH au ?_;refine PD 6 ?_;refine PD 7 ?_;refine FD 8 7 j5 cH ?_;refine tb 9 rfl (aP (vs:=ints v.ballot.flat) rfl kG rfl cH rfl (λ_ h=>h.2.1) (au v.ballot) (Nk v 0 rfl (by decide) (whole (au v.ballot)))) ?_;refine tb 10 rfl (No (a:=b.flat) (b:=v.ballot.flat) (m:=6) (c:=2) Oe Oc rfl OM (ff (au b)) (ff (au v.ballot)) ⟨jm Jl Jx (ff (au b)),jm Jl Jx (ff (au v.ballot))⟩ hb hvb rfl rfl rfl) ?_;refine jA ?_ ?_<;>intro h21;refine PD 11 ?_;refine PD 12 ?_;refine NT 13 ?_;refine NT 14 ?_;refine NT 15 ?_;refine NT 16 ?_;refine NT 17 ?_;refine NT 18 ?_;refine NT 19 ?_;refine PD 20 ?_;refine DN (ae J3 (CY (sr λ_ J5=>PS ?_)));refine nx J5 (aj (ag (WK [3] (aw rfl rfl ?_))));have e:eX v who b had ch=(v,false):=by rw[eX,oB,decide_eq_false h21,if_pos (by rw[h14];rfl)]
 exact⟨congrArg (λq:VoteT×Bool=>Value.bool q.2) e.symm,congrArg (λq:VoteT×Bool=>[ak vb (VoteT.cells q.1) 207]) e.symm⟩;refine PD 11 ?_;refine PD 12 ?_;refine PD 13 ?_;refine PD 14 ?_;refine FD 15 0 j5 bm ?_;refine tb 16 rfl (aP (vs:=ints v.view.flat) rfl eO rfl bm rfl (λ_ h=>h.2.1) (ap v.view) (Ff v 0 rfl (by decide) (whole (ap v.view)))) ?_;refine PD 17 ?_;refine AL 18 ?_;refine CE qU (dR v.view who) ID ?_;refine bh ?_ ?_<;>intro h29;have hw:0≤who∧who<5:=by unfold jr cO at h29;simp only[ay,decide_eq_true_eq]at h29;exact h29.1
 refine EN (PD 19 ?_);refine PD 20 ?_;refine DN (ae J3 (CN (qx J2 (aa λ_ J6=>D0 mixed ?_))));refine PD 0 ?_;refine PD 1 ?_;refine FD 2 14 j5 aR ?_;refine PD 4 ?_;refine ta 5 rfl (zP (r:=(dr who)) rfl rfl rfl (by omega) rfl) ?_;refine AL 3 ?_;refine LU 3 Y3 (mw v rfl) ?_;refine EN (ta 6 rfl (L2 (r:=(jp .i64 v.vowed (dr who))) rfl rfl rfl rfl) ?_);refine PD 7 ?_;refine FD 8 14 j5 aR ?_;refine AL 9 ?_;refine SS 3 aR (ot _) (VoteT.set_vowed v rfl _) ?_;refine EN (DN (ae J6 (aa λ_ J7=>aa λ_ J8=>D2 1 3 mixed ?_)));refine FD 0 0 kG aR ?_;refine LR 1 Y3 (fo had rfl) ?_;refine PD 2 ?_;refine jA ?_ ?_<;>intro h43;refine PD 3 ?_;refine PD 4 ?_;refine PD 5 ?_;refine FD 6 12 j5 cH ?_;refine tb 7 rfl (aP (vs:=ints v.best.flat) rfl kG rfl cH rfl (λ_ h=>h.2.2.1) (au v.best) (VoteT.sub_best (VoteT.mk v.view v.ballot v.change v.best (jp .i64 v.vowed (dr who)) v.took v.putting) 0 rfl (by decide) (whole (au v.best)))) ?_;refine LY 8 kG cH au ?_;refine AL 9 ?_;refine CE NB (AF v.best had) ID ?_;refine bh ?_ ?_<;>intro h50;refine EN (PD 10 ?_);refine DN (ae J8 (CY (D2 1 0 mixed ?_)));refine PD 0 ?_;refine PD 1 ?_;refine LY 2 kG cH au ?_;refine LY 3 n5 fT aN ?_;refine PD 4 ?_;refine FD 5 12 j5 cH ?_;refine AL 6 ?_;refine SP 3 cH au ot VoteT.wp_best ?_;refine EN (PD 7 ?_);refine FD 8 9 j5 fT ?_;refine AL 9 ?_;refine SP 3 fT aN ot VoteT.wp_change ?_
 refine EN (DN (ae J7 (aa λ_ J9=>e7 (α:=Unit) (λ_=>True) (λ_u=>[(0,(.pointer (some ⟨vb,0,none⟩))),(10,(.bool false))]) (λ_u=>[ak b9 (ints ch.flat) 61,ak b8 (ints had.flat) 80,ak b7 (ints b.flat) 80,ak vb (VoteT.cells (VoteT.mk v.view v.ballot ch had (jp .i64 v.vowed (dr who)) v.took (hZ v.view (jp .i64 v.vowed (dr who))))) 207]) (λ_u _=>?_) (λtl9=>?_))));refine ae J9 (sr λ_ J10=>P2 ?_);refine FA 16 j5 lK ?_;refine LT 3 Y4 (.bool (hZ v.view (jp .i64 v.vowed (dr who)))) ?_ (hc:=by exact mK _ rfl);refine PS ?_;refine nx J10 (aj (WK [3] (aw rfl rfl ?_)));have e:eX v who b had ch=((VoteT.mk v.view v.ballot ch had (jp .i64 v.vowed (dr who)) v.took (hZ v.view (jp .i64 v.vowed (dr who)))),hZ v.view (jp .i64 v.vowed (dr who))):=by rw[eX,oB,decide_eq_true (show b.flat=v.ballot.flat from Decidable.not_not.1 h21),h29,h14,if_neg (by decide),xg,decide_eq_true (show 0<had.round by omega),h50,if_pos (by decide)]
 exact⟨congrArg (λq:VoteT×Bool=>Value.bool q.2) e.symm,congrArg (λq:VoteT×Bool=>[ak vb (VoteT.cells q.1) 207]) e.symm⟩;refine D0 mixed ?_;refine PD 0 ?_;refine PD 1 ?_;refine PD 2 ?_;refine FD 3 0 j5 bm ?_;refine PD 5 ?_;refine PD 6 ?_;refine FD 7 14 j5 aR ?_;refine cZ [4,8] (by kernel_rfl) rfl (aG rfl ?_ ?_);refine LV 3 eO bm ap qq (y:=v.view) ?_;refine EN (AL 8 ?_);refine LT 3 Y3 (.int .i64 ((jp .i64 v.vowed (dr who)))) ?_ (hc:=by exact mw _ rfl);refine EN (AL 9 ?_);refine CE yf (jS v.view (jp .i64 v.vowed (dr who))) ID ?_;refine EN (PD 10 ?_);refine FD 11 16 j5 lK ?_;refine AL 12 ?_;refine SS 3 lK (ot _) (lR _ rfl _) ?_;refine EN (DN ?_)
 exact aF
  SB
  (λ_ s=>s)
  (tl9 (():Unit) trivial)
 refine aG rfl ?_ ?_;refine LT 3 Y3 (.int .i64 ((jp .i64 v.vowed (dr who)))) ?_ (hc:=by exact mw _ rfl);refine EN (AL 4 ?_);refine LV 3 eO bm ap qq (y:=v.view) ?_;refine EN (AL 9 ?_);refine CE yf (jS v.view (jp .i64 v.vowed (dr who))) ID ?_;refine EN (PD 10 ?_);refine FD 11 16 j5 lK ?_;refine AL 12 ?_;refine SS 3 lK (ot _) (lR _ rfl _) ?_;refine EN (DN ?_)
 exact aF
  SB
  (λ_ s=>s)
  (tl9 (():Unit) trivial)
 exact bM;refine EN (PD 10 ?_);refine DN (ae J8 (CN (qx J7 (aa λ_ J11=>e7 (α:=Unit) (λ_=>True) (λ_u=>[(0,(.pointer (some ⟨vb,0,none⟩))),(10,(.bool false))]) (λ_u=>[ak b9 (ints ch.flat) 61,ak b8 (ints had.flat) 80,ak b7 (ints b.flat) 80,ak vb (VoteT.cells (VoteT.mk v.view v.ballot v.change v.best (jp .i64 v.vowed (dr who)) v.took (hZ v.view (jp .i64 v.vowed (dr who))))) 207]) (λ_u _=>?_) (λtl11=>?_)))));refine ae J11 (sr λ_ J12=>P2 ?_);refine FA 16 j5 lK ?_;refine LT 3 Y4 (.bool (hZ v.view (jp .i64 v.vowed (dr who)))) ?_ (hc:=by exact mK _ rfl);refine PS ?_;refine nx J12 (aj (WK [3] (aw rfl rfl ?_)));have e:eX v who b had ch=((VoteT.mk v.view v.ballot v.change v.best (jp .i64 v.vowed (dr who)) v.took (hZ v.view (jp .i64 v.vowed (dr who)))),hZ v.view (jp .i64 v.vowed (dr who))):=by rw[eX,oB,decide_eq_true (show b.flat=v.ballot.flat from Decidable.not_not.1 h21),h29,h14,if_neg (by decide),xg,h50,mH,if_neg (by decide)]
 exact⟨congrArg (λq:VoteT×Bool=>Value.bool q.2) e.symm,congrArg (λq:VoteT×Bool=>[ak vb (VoteT.cells q.1) 207]) e.symm⟩;refine D0 mixed ?_;refine PD 0 ?_;refine PD 1 ?_;refine PD 2 ?_;refine FD 3 0 j5 bm ?_;refine PD 5 ?_;refine PD 6 ?_;refine FD 7 14 j5 aR ?_;refine cZ [4,8] (by kernel_rfl) rfl (aG rfl ?_ ?_);refine LV 3 eO bm ap qq (y:=v.view) ?_;refine EN (AL 8 ?_);refine LT 3 Y3 (.int .i64 ((jp .i64 v.vowed (dr who)))) ?_ (hc:=by exact mw _ rfl);refine EN (AL 9 ?_);refine CE yf (jS v.view (jp .i64 v.vowed (dr who))) ID ?_;refine EN (PD 10 ?_);refine FD 11 16 j5 lK ?_;refine AL 12 ?_;refine SS 3 lK (ot _) (lR _ rfl _) ?_;refine EN (DN ?_)
 exact aF
  SB
  (λ_ s=>s)
  (tl11 (():Unit) trivial)
 refine aG rfl ?_ ?_;refine LT 3 Y3 (.int .i64 ((jp .i64 v.vowed (dr who)))) ?_ (hc:=by exact mw _ rfl);refine EN (AL 4 ?_);refine LV 3 eO bm ap qq (y:=v.view) ?_;refine EN (AL 9 ?_);refine CE yf (jS v.view (jp .i64 v.vowed (dr who))) ID ?_;refine EN (PD 10 ?_);refine FD 11 16 j5 lK ?_;refine AL 12 ?_;refine SS 3 lK (ot _) (lR _ rfl _) ?_;refine EN (DN ?_)
 exact aF
  SB
  (λ_ s=>s)
  (tl11 (():Unit) trivial)
 exact bM;refine PD 3 ?_;refine NT 4 ?_;refine NT 5 ?_;refine NT 6 ?_;refine NT 7 ?_;refine NT 8 ?_;refine NT 9 ?_;refine PD 10 ?_;refine DN (ae J8 (CN (qx J7 (aa λ_ J13=>e7 (α:=Unit) (λ_=>True) (λ_u=>[(0,(.pointer (some ⟨vb,0,none⟩))),(10,(.bool false))]) (λ_u=>[ak b9 (ints ch.flat) 61,ak b8 (ints had.flat) 80,ak b7 (ints b.flat) 80,ak vb (VoteT.cells (VoteT.mk v.view v.ballot v.change v.best (jp .i64 v.vowed (dr who)) v.took (hZ v.view (jp .i64 v.vowed (dr who))))) 207]) (λ_u _=>?_) (λtl13=>?_)))));refine ae J13 (sr λ_ J14=>P2 ?_);refine FA 16 j5 lK ?_;refine LT 3 Y4 (.bool (hZ v.view (jp .i64 v.vowed (dr who)))) ?_ (hc:=by exact mK _ rfl);refine PS ?_;refine nx J14 (aj (WK [3] (aw rfl rfl ?_)));have e:eX v who b had ch=((VoteT.mk v.view v.ballot v.change v.best (jp .i64 v.vowed (dr who)) v.took (hZ v.view (jp .i64 v.vowed (dr who)))),hZ v.view (jp .i64 v.vowed (dr who))):=by rw[eX,oB,decide_eq_true (show b.flat=v.ballot.flat from Decidable.not_not.1 h21),h29,h14,if_neg (by decide),xg,decide_eq_false (show ¬0<had.round by omega),ij,if_neg (by decide)]
 exact⟨congrArg (λq:VoteT×Bool=>Value.bool q.2) e.symm,congrArg (λq:VoteT×Bool=>[ak vb (VoteT.cells q.1) 207]) e.symm⟩;refine D0 mixed ?_;refine PD 0 ?_;refine PD 1 ?_;refine PD 2 ?_;refine FD 3 0 j5 bm ?_;refine PD 5 ?_;refine PD 6 ?_;refine FD 7 14 j5 aR ?_;refine cZ [4,8] (by kernel_rfl) rfl (aG rfl ?_ ?_);refine LV 3 eO bm ap qq (y:=v.view) ?_;refine EN (AL 8 ?_);refine LT 3 Y3 (.int .i64 ((jp .i64 v.vowed (dr who)))) ?_ (hc:=by exact mw _ rfl);refine EN (AL 9 ?_);refine CE yf (jS v.view (jp .i64 v.vowed (dr who))) ID ?_;refine EN (PD 10 ?_);refine FD 11 16 j5 lK ?_;refine AL 12 ?_;refine SS 3 lK (ot _) (lR _ rfl _) ?_;refine EN (DN ?_)
 exact aF
  SB
  (λ_ s=>s)
  (tl13 (():Unit) trivial)
 refine aG rfl ?_ ?_;refine LT 3 Y3 (.int .i64 ((jp .i64 v.vowed (dr who)))) ?_ (hc:=by exact mw _ rfl);refine EN (AL 4 ?_);refine LV 3 eO bm ap qq (y:=v.view) ?_;refine EN (AL 9 ?_);refine CE yf (jS v.view (jp .i64 v.vowed (dr who))) ID ?_;refine EN (PD 10 ?_);refine FD 11 16 j5 lK ?_;refine AL 12 ?_;refine SS 3 lK (ot _) (lR _ rfl _) ?_;refine EN (DN ?_)
 exact aF
  SB
  (λ_ s=>s)
  (tl13 (():Unit) trivial)
 exact bM;refine EN (PD 19 ?_);refine PD 20 ?_;refine DN (ae J3 (CY (sr λ_ J15=>PS ?_)));refine nx J15 (aj (ag (WK [3] (aw rfl rfl ?_))));have e:eX v who b had ch=(v,false):=by rw[eX,oB,h29,if_pos (by rw[h14,mH];rfl)]
 exact⟨congrArg (λq:VoteT×Bool=>Value.bool q.2) e.symm,congrArg (λq:VoteT×Bool=>[ak vb (VoteT.cells q.1) 207]) e.symm⟩
theorem FI(vb:Nat)(v:VoteT)(who:Int)(b:BallotT)(hb:WF b.flat)(hvb:WF v.ballot.flat):
 DT 163 #[(.pointer (some ⟨vb,0,none⟩)),(.int .i64 (who)),(.agg (ints b.flat).toArray)] T0 [ak vb (VoteT.cells v) 207] (RI (.bool (gY v who b).2) [ak vb (VoteT.cells (gY v who b).1) 207]):=by
 refine BD 47 Tryz.func163 rfl rfl rfl λw0 F hF=>sr λ_ J1=>XY (ints b.flat) λb5=>?_
 refine PS ?_;refine nx J1 (aa λ_ J2=>aa λ_ J3=>D2 1 0 mixed ?_);refine PD 0 ?_;refine PD 1 ?_;refine FD 2 16 j5 lK ?_;refine LR 3 Y4 (mK v rfl) ?_;refine pj ?_ ?_<;>intro h10;refine PD 4 ?_;refine PD 5 ?_;refine LY 6 kG cH au ?_;refine PD 7 ?_;refine PD 8 ?_;refine FD 9 7 j5 cH ?_;refine tb 10 rfl (aP (vs:=ints v.ballot.flat) rfl kG rfl cH rfl (λ_ h=>h.2.1) (au v.ballot) (Nk v 0 rfl (by decide) (whole (au v.ballot)))) ?_;refine tb 11 rfl (No (a:=b.flat) (b:=v.ballot.flat) (m:=6) (c:=2) Oe Oc rfl OM (ff (au b)) (ff (au v.ballot)) ⟨jm Jl Jx (ff (au b)),jm Jl Jx (ff (au v.ballot))⟩ hb hvb rfl rfl rfl) ?_;refine jA ?_ ?_<;>intro h18;refine PD 12 ?_;refine PD 13 ?_;refine NT 14 ?_;refine NT 15 ?_;refine NT 16 ?_;refine NT 17 ?_;refine NT 18 ?_;refine NT 19 ?_;refine NT 20 ?_;refine PD 21 ?_;refine DN (ae J3 (CY (sr λ_ J4=>PS ?_)));refine nx J4 (aj (ag (WK [1] (aw rfl rfl ?_))));have e:gY v who b=(v,false):=by rw[gY,oB,decide_eq_false h18,if_pos (by rw[h10];rfl)]
 exact⟨congrArg (λq:VoteT×Bool=>Value.bool q.2) e.symm,congrArg (λq:VoteT×Bool=>[ak vb (VoteT.cells q.1) 207]) e.symm⟩;refine PD 12 ?_;refine PD 13 ?_;refine PD 14 ?_;refine PD 15 ?_;refine FD 16 0 j5 bm ?_;refine tb 17 rfl (aP (vs:=ints v.view.flat) rfl eO rfl bm rfl (λ_ h=>h.2.1) (ap v.view) (Ff v 0 rfl (by decide) (whole (ap v.view)))) ?_;refine PD 18 ?_;refine AL 19 ?_;refine CE qU (dR v.view who) ID ?_;refine bh ?_ ?_<;>intro h26;have hw:0≤who∧who<5:=by unfold jr cO at h26;simp only[ay,decide_eq_true_eq]at h26;exact h26.1
 refine EN (PD 20 ?_);refine PD 21 ?_;refine DN (ae J3 (CN (qx J2 (aa λ_ J5=>D0 mixed ?_))));refine PD 0 ?_;refine PD 1 ?_;refine FD 2 15 j5 aR ?_;refine PD 4 ?_;refine ta 5 rfl (zP (r:=(dr who)) rfl rfl rfl (by omega) rfl) ?_;refine AL 3 ?_;refine LU 1 Y3 (VoteT.at_took v rfl) ?_;refine EN (ta 6 rfl (L2 (r:=(jp .i64 v.took (dr who))) rfl rfl rfl rfl) ?_);refine PD 7 ?_;refine FD 8 15 j5 aR ?_;refine AL 9 ?_;refine SS 1 aR (ot _) (VoteT.set_took v rfl _) ?_;refine EN (DN (ae J5 (aa λ_ J6=>D1 1 mixed ?_)));refine PD 0 ?_;refine PD 1 ?_;refine FD 2 0 j5 bm ?_;refine ta 3 rfl (aP (vs:=ints v.view.flat) rfl eO rfl bm rfl (λ_ h=>h.2.1) (ap v.view) (Ff (VoteT.mk v.view v.ballot v.change v.best v.vowed (jp .i64 v.took (dr who)) v.putting) 0 rfl (by decide) (whole (ap v.view)))) ?_;refine PD 4 ?_;refine PD 5 ?_;refine FD 6 15 j5 aR ?_;refine LX 7 Y3 (.int .i64 ((jp .i64 v.took (dr who)))) ?_ (hc:=by exact VoteT.at_took _ rfl);refine AL 8 ?_;refine CE yf (jS v.view (jp .i64 v.took (dr who))) ID ?_;refine EN (PD 9 ?_);refine DN (ae J6 (aj (WK [1] (aw rfl rfl ?_))));have e:gY v who b=((VoteT.mk v.view v.ballot v.change v.best v.vowed (jp .i64 v.took (dr who)) v.putting),hZ v.view (jp .i64 v.took (dr who))):=by rw[gY,oB,decide_eq_true (show b.flat=v.ballot.flat from Decidable.not_not.1 h18),h26,h10,if_neg (by decide)]
 exact⟨congrArg (λq:VoteT×Bool=>Value.bool q.2) e.symm,congrArg (λq:VoteT×Bool=>[ak vb (VoteT.cells q.1) 207]) e.symm⟩;refine EN (PD 20 ?_);refine PD 21 ?_;refine DN (ae J3 (CY (sr λ_ J7=>PS ?_)));refine nx J7 (aj (ag (WK [1] (aw rfl rfl ?_))));have e:gY v who b=(v,false):=by rw[gY,oB,h26,if_pos (by rw[h10,mH];rfl)]
 exact⟨congrArg (λq:VoteT×Bool=>Value.bool q.2) e.symm,congrArg (λq:VoteT×Bool=>[ak vb (VoteT.cells q.1) 207]) e.symm⟩;refine PD 4 ?_;refine PD 5 ?_;refine NT 6 ?_;refine NT 7 ?_;refine NT 8 ?_;refine NT 9 ?_;refine NT 10 ?_;refine NT 11 ?_;refine PD 12 ?_;refine PD 13 ?_;refine NT 14 ?_;refine NT 15 ?_;refine NT 16 ?_;refine NT 17 ?_;refine NT 18 ?_;refine NT 19 ?_;refine NT 20 ?_;refine PD 21 ?_;refine DN (ae J3 (CY (sr λ_ J8=>PS ?_)));refine nx J8 (aj (ag (WK [1] (aw rfl rfl ?_))));have e:gY v who b=(v,false):=by rw[gY,h10,if_pos (by rfl)]
 exact⟨congrArg (λq:VoteT×Bool=>Value.bool q.2) e.symm,congrArg (λq:VoteT×Bool=>[ak vb (VoteT.cells q.1) 207]) e.symm⟩
theorem Cp{δ:Type}(V:Env δ)(r vb:Nat)(s:MS δ)(vt:VoteT)(hv:s.vote=some vt)[OkR V.toDk s]:
 DT 164 #[(.pointer (some ⟨r,0,none⟩)),(.iface V.T V.ov)] T0 [w5 V r s (.pointer (some ⟨vb,0,none⟩)),ak vb (VoteT.cells vt) 207] (dA (λ_ H=>H=[cU V r (jw V.toDk s vt.change)])):=by
 refine BD 32 Tryz.func164 rfl rfl rfl λw0 F hF=>aa λ_ J1=>e7 (α:=(Nat)) (λ_=>True) (λb4=>[(0,(.pointer (some ⟨r,0,none⟩))),(1,(.iface V.T V.ov)),(4,(.pointer (some ⟨b4,0,none⟩))),(5,(.int .i64 ((dW s.view vt.change).2)))]) (λb4=>[ak b4 (ints ((dW s.view vt.change).1).flat) 32,ak vb (VoteT.cells vt) 207,w5 V r s (.pointer (some ⟨vb,0,none⟩))]) (λb4 _=>?_) (λtl1=>?_)
 refine ae J1 (aa λ_ J2=>sr λ_ J3=>cz (H':=cU V r s::[ak b4 (ints ((dW s.view vt.change).1).flat) 32]) (λ_ q=>o7 hv (aD [2,1] rfl q)) (P2 ?_));refine aq ?_ ?_<;>intro h20;refine PS ?_
 iterate 5 refine UT ?_
 refine PS ?_;refine nx J3 (CY (aj (ag (WK [0] (dV rfl ?_)))));exact MQ (by rw[jw,if_pos h20]);refine P3 ?_;refine LW 1 eO bm ap ?_;refine CE KW (vZ V r s ((dW s.view vt.change).1)) ID ?_;refine bh ?_ ?_<;>intro h25;refine PS ?_;refine PS ?_;refine nx J3 (CN (qx J2 (af (P2 ?_))));refine LW 1 eO bm ap ?_;refine CZ Oq (nD V r (gP V.toDk s ((dW s.view vt.change).1)) ((dW s.view vt.change).1)) ID λvR=>?_
 refine ax (WK [0] (bC rfl ?_));exact MQ (by rw[jw,if_neg h20,h25,if_pos rfl]);refine PS ?_;refine PS ?_;refine nx J3 (CY (aj (ag (WK [0] (dV rfl ?_)))));exact MQ (by rw[jw,if_neg h20,h25,if_neg (by decide)]);refine D1 1 mixed ?_;refine PD 0 ?_;refine PD 1 ?_;refine FD 2 2 dw bm ?_;refine PD 4 ?_;refine PD 5 ?_;refine FD 6 1067 dw nF ?_;refine cZ [3,7,13] (by kernel_rfl) rfl (aG rfl ?_ ?_);refine LZ 0 eO bm ap s.view ?_ (hc:=by exact λ_=>c9 _);refine EN (cZ [7,13] (by kernel_rfl) rfl (aG rfl ?_ ?_));refine LG 0 qf (.pointer (some ⟨vb,0,none⟩)) ?_ (hc:=by exact λa_=>(cd _ rfl));refine EN (cZ [8,13] (by kernel_rfl) rfl (aG rfl ?_ ?_));refine CE vf (du vb vt) (SM [1]) ?_;refine EN (cZ [9,13] (by kernel_rfl) rfl (aG rfl ?_ ?_));refine CE nL (dG s.view vt.change OkVw.rng) ID ?_;refine EN (PD 10 ?_);refine PD 11 ?_;refine PD 12 ?_;refine AL 13 ?_;refine XZ tj (ints ViewT.zero.flat) λb4=>?_
 refine EN (AL 14 ?_);refine SW 0 bm ap ?_;refine EN (PD 15 ?_);refine DN ?_
 exact aF
  SB
  (λ_ s=>s)
  (tl1 ((b4):(Nat)) trivial)
 refine aG rfl ?_ ?_;refine XZ tj (ints ViewT.zero.flat) λb4=>?_
 refine EN (AL 9 ?_);refine CE nL (dG s.view vt.change OkVw.rng) ID ?_;refine EN (PD 10 ?_);refine PD 11 ?_;refine PD 12 ?_;refine AL 14 ?_;refine SW 0 bm ap ?_;refine EN (PD 15 ?_);refine DN ?_
 exact aF
  SB
  (λ_ s=>s)
  (tl1 ((b4):(Nat)) trivial)
 exact bM;refine aG rfl ?_ ?_;refine XZ tj (ints ViewT.zero.flat) λb4=>?_
 refine EN (AL 8 ?_);refine CE vf (du vb vt) (SM [2]) ?_;refine EN (AL 9 ?_);refine CE nL (dG s.view vt.change OkVw.rng) ID ?_;refine EN (PD 10 ?_);refine PD 11 ?_;refine PD 12 ?_;refine AL 14 ?_;refine SW 1 bm ap ?_;refine EN (PD 15 ?_);refine DN ?_
 exact aF
  SB
  (λ_ s=>an [1,0,0] rfl s)
  (tl1 ((b4):(Nat)) trivial)
 exact bM;refine aG rfl ?_ ?_;refine XZ tj (ints ViewT.zero.flat) λb4=>?_
 refine EN (AL 7 ?_);refine LG 1 qf (.pointer (some ⟨vb,0,none⟩)) ?_ (hc:=by exact λa_=>(cd _ rfl));refine EN (AL 8 ?_);refine CE vf (du vb vt) (SM [2]) ?_;refine EN (AL 9 ?_);refine CE nL (dG s.view vt.change OkVw.rng) ID ?_;refine EN (PD 10 ?_);refine PD 11 ?_;refine PD 12 ?_;refine AL 14 ?_;refine SW 1 bm ap ?_;refine EN (PD 15 ?_);refine DN ?_
 exact aF
  SB
  (λ_ s=>an [1,0,0] rfl s)
  (tl1 ((b4):(Nat)) trivial)
 exact bM;refine aG rfl ?_ ?_;refine LG 0 qf (.pointer (some ⟨vb,0,none⟩)) ?_ (hc:=by exact λa_=>(cd _ rfl));refine EN (cZ [3,8,13] (by kernel_rfl) rfl (aG rfl ?_ ?_));refine LZ 0 eO bm ap s.view ?_ (hc:=by exact λ_=>c9 _);refine EN (cZ [8,13] (by kernel_rfl) rfl (aG rfl ?_ ?_));refine CE vf (du vb vt) (SM [1]) ?_;refine EN (cZ [9,13] (by kernel_rfl) rfl (aG rfl ?_ ?_));refine CE nL (dG s.view vt.change OkVw.rng) ID ?_;refine EN (PD 10 ?_);refine PD 11 ?_;refine PD 12 ?_;refine AL 13 ?_;refine XZ tj (ints ViewT.zero.flat) λb4=>?_
 refine EN (AL 14 ?_);refine SW 0 bm ap ?_;refine EN (PD 15 ?_);refine DN ?_
 exact aF
  SB
  (λ_ s=>s)
  (tl1 ((b4):(Nat)) trivial)
 refine aG rfl ?_ ?_;refine XZ tj (ints ViewT.zero.flat) λb4=>?_
 refine EN (AL 9 ?_);refine CE nL (dG s.view vt.change OkVw.rng) ID ?_;refine EN (PD 10 ?_);refine PD 11 ?_;refine PD 12 ?_;refine AL 14 ?_;refine SW 0 bm ap ?_;refine EN (PD 15 ?_);refine DN ?_
 exact aF
  SB
  (λ_ s=>s)
  (tl1 ((b4):(Nat)) trivial)
 exact bM;refine aG rfl ?_ ?_;refine XZ tj (ints ViewT.zero.flat) λb4=>?_
 refine EN (AL 8 ?_);refine CE vf (du vb vt) (SM [2]) ?_;refine EN (AL 9 ?_);refine CE nL (dG s.view vt.change OkVw.rng) ID ?_;refine EN (PD 10 ?_);refine PD 11 ?_;refine PD 12 ?_;refine AL 14 ?_;refine SW 1 bm ap ?_;refine EN (PD 15 ?_);refine DN ?_
 exact aF
  SB
  (λ_ s=>an [1,0,0] rfl s)
  (tl1 ((b4):(Nat)) trivial)
 exact bM;refine aG rfl ?_ ?_;refine CE vf (du vb vt) (SM [1]) ?_;refine EN (cZ [3,13] (by kernel_rfl) rfl (aG rfl ?_ ?_));refine LZ 1 eO bm ap s.view ?_ (hc:=by exact λ_=>c9 _);refine EN (cZ [9,13] (by kernel_rfl) rfl (aG rfl ?_ ?_));refine CE nL (dG s.view vt.change OkVw.rng) ID ?_;refine EN (PD 10 ?_);refine PD 11 ?_;refine PD 12 ?_;refine AL 13 ?_;refine XZ tj (ints ViewT.zero.flat) λb4=>?_
 refine EN (AL 14 ?_);refine SW 0 bm ap ?_;refine EN (PD 15 ?_);refine DN ?_
 exact aF
  SB
  (λ_ s=>s)
  (tl1 ((b4):(Nat)) trivial)
 refine aG rfl ?_ ?_;refine XZ tj (ints ViewT.zero.flat) λb4=>?_
 refine EN (AL 9 ?_);refine CE nL (dG s.view vt.change OkVw.rng) ID ?_;refine EN (PD 10 ?_);refine PD 11 ?_;refine PD 12 ?_;refine AL 14 ?_;refine SW 0 bm ap ?_;refine EN (PD 15 ?_);refine DN ?_
 exact aF
  SB
  (λ_ s=>s)
  (tl1 ((b4):(Nat)) trivial)
 exact bM;refine aG rfl ?_ ?_;refine XZ tj (ints ViewT.zero.flat) λb4=>?_
 refine EN (AL 3 ?_);refine LZ 2 eO bm ap s.view ?_ (hc:=by exact λ_=>c9 _);refine EN (AL 9 ?_);refine CE nL (dG s.view vt.change OkVw.rng) ID ?_;refine EN (PD 10 ?_);refine PD 11 ?_;refine PD 12 ?_;refine AL 14 ?_;refine SW 0 bm ap ?_;refine EN (PD 15 ?_);refine DN ?_
 exact aF
  SB
  (λ_ s=>s)
  (tl1 ((b4):(Nat)) trivial)
 exact bM;refine aG rfl ?_ ?_;refine XZ tj (ints ViewT.zero.flat) λb4=>?_
 refine EN (cZ [3,8] (by kernel_rfl) rfl (aG rfl ?_ ?_));refine LZ 1 eO bm ap s.view ?_ (hc:=by exact λ_=>c9 _);refine EN (AL 8 ?_);refine CE vf (du vb vt) (SM [2]) ?_;refine EN (AL 9 ?_);refine CE nL (dG s.view vt.change OkVw.rng) ID ?_;refine EN (PD 10 ?_);refine PD 11 ?_;refine PD 12 ?_;refine AL 14 ?_;refine SW 1 bm ap ?_;refine EN (PD 15 ?_);refine DN ?_
 exact aF
  SB
  (λ_ s=>an [1,0,0] rfl s)
  (tl1 ((b4):(Nat)) trivial)
 refine aG rfl ?_ ?_;refine CE vf (du vb vt) (SM [2]) ?_;refine EN (AL 3 ?_);refine LZ 2 eO bm ap s.view ?_ (hc:=by exact λ_=>c9 _);refine EN (AL 9 ?_);refine CE nL (dG s.view vt.change OkVw.rng) ID ?_;refine EN (PD 10 ?_);refine PD 11 ?_;refine PD 12 ?_;refine AL 14 ?_;refine SW 1 bm ap ?_;refine EN (PD 15 ?_);refine DN ?_
 exact aF
  SB
  (λ_ s=>an [1,0,0] rfl s)
  (tl1 ((b4):(Nat)) trivial)
 exact bM;exact bM;refine aG rfl ?_ ?_;refine XZ tj (ints ViewT.zero.flat) λb4=>?_
 refine EN (cZ [3,7] (by kernel_rfl) rfl (aG rfl ?_ ?_));refine LZ 1 eO bm ap s.view ?_ (hc:=by exact λ_=>c9 _);refine EN (AL 7 ?_);refine LG 1 qf (.pointer (some ⟨vb,0,none⟩)) ?_ (hc:=by exact λa_=>(cd _ rfl));refine EN (AL 8 ?_);refine CE vf (du vb vt) (SM [2]) ?_;refine EN (AL 9 ?_);refine CE nL (dG s.view vt.change OkVw.rng) ID ?_;refine EN (PD 10 ?_);refine PD 11 ?_;refine PD 12 ?_;refine AL 14 ?_;refine SW 1 bm ap ?_;refine EN (PD 15 ?_);refine DN ?_
 exact aF
  SB
  (λ_ s=>an [1,0,0] rfl s)
  (tl1 ((b4):(Nat)) trivial)
 refine aG rfl ?_ ?_;refine LG 1 qf (.pointer (some ⟨vb,0,none⟩)) ?_ (hc:=by exact λa_=>(cd _ rfl));refine EN (cZ [3,8] (by kernel_rfl) rfl (aG rfl ?_ ?_));refine LZ 1 eO bm ap s.view ?_ (hc:=by exact λ_=>c9 _);refine EN (AL 8 ?_);refine CE vf (du vb vt) (SM [2]) ?_;refine EN (AL 9 ?_);refine CE nL (dG s.view vt.change OkVw.rng) ID ?_;refine EN (PD 10 ?_);refine PD 11 ?_;refine PD 12 ?_;refine AL 14 ?_;refine SW 1 bm ap ?_;refine EN (PD 15 ?_);refine DN ?_
 exact aF
  SB
  (λ_ s=>an [1,0,0] rfl s)
  (tl1 ((b4):(Nat)) trivial)
 refine aG rfl ?_ ?_;refine CE vf (du vb vt) (SM [2]) ?_;refine EN (AL 3 ?_);refine LZ 2 eO bm ap s.view ?_ (hc:=by exact λ_=>c9 _);refine EN (AL 9 ?_);refine CE nL (dG s.view vt.change OkVw.rng) ID ?_;refine EN (PD 10 ?_);refine PD 11 ?_;refine PD 12 ?_;refine AL 14 ?_;refine SW 1 bm ap ?_;refine EN (PD 15 ?_);refine DN ?_
 exact aF
  SB
  (λ_ s=>an [1,0,0] rfl s)
  (tl1 ((b4):(Nat)) trivial)
 exact bM;exact bM;exact bM
theorem Co{δ:Type}(V:Env δ)(r:Nat)(s:MS δ)(vt:VoteT)(hv:s.vote=some vt)[OkR V.toDk s]:DT 164 #[.pointer (some ⟨r,0,none⟩), .iface V.T V.ov] T0 [cU V r s] (dA (λ_ H=>H=[cU V r (jw V.toDk s vt.change)])):=
 Leg.Does.ex (λ_ q=>nN hv q) λvb=>Cp V r vb s vt hv
theorem o8{δ:Type}{V:Env δ}{r:Nat}{s:MS δ}{H:List HP}{h:Hl}(hv:s.vote=none)(q:bH (w5 V r s (.pointer none)::H) h):bH (cU V r s::H) h:=by
 have q2:=D7 q
 rwa [show({s with vote:=none}:MS δ)=s by cases s;simp_all]at q2
theorem lc{δ:Type}(V:Env δ)(r:Nat)(s:MS δ)(f:MS δ→MS δ)(from':Int)(m:MsgT)[OkR V.toDk s][OkMg m](hfe:from'=s.id→m.epoch=s.view.epoch)(h3:m.kind=3→m.epoch=s.view.epoch→TK V r 160 (dB s (max s.round m.ballot.round)) from' m (f (dB s (max s.round m.ballot.round))))(h5:m.kind=5→m.epoch=s.view.epoch→TK V r 161 (dB s (max s.round m.ballot.round)) from' m (f (dB s (max s.round m.ballot.round))))(hn:m.kind≠3∧m.kind≠5→f (dB s (max s.round m.ballot.round))=(dB s (max s.round m.ballot.round)))(hv:m.kind=4∨m.kind=6→s.vote=none):
 DT 126 #[(.pointer (some ⟨r,0,none⟩)),(.iface V.T V.ov),(.int .i64 (from')),(.agg (ints m.flat).toArray)] T0 [cU V r s] (dA (λ_ H=>H=[cU V r (ez V.toDk f s from' m)])):=by
 refine BD 124 Tryz.func126 rfl rfl rfl λw0 F hF=>sr λ_ J1=>XY (ints m.flat) λb7=>?_
 refine nx J1 (aa λ_ J2=>aa λ_ J3=>DC mixed (BL 0) (db 1 rfl rfl) ?_);refine FD 0 177 bj aR ?_;refine LR 1 Y3 (eS m rfl) ?_;refine PD 2 ?_;refine PD 3 ?_;refine FD 4 2 dw bm ?_;refine FD 5 2 eO aR ?_;refine ta 6 rfl (dz (v:=(.int .i64 (s.view.epoch))) rfl Y3 rfl rfl (λ_ h=>h.2.2.1) (λa_=>(cr (s.rep a_) 0 rfl (by decide) (be _ rfl)))) ?_;refine PD 7 ?_;refine jA ?_ ?_<;>intro h15;refine DN (ae J3 (CY (aa λ_ J4=>sr λ_ J5=>FA 0 bj aR ?_)));refine LU 0 Y3 (eZ m rfl) ?_;refine PS ?_;refine aq ?_ ?_<;>intro h18;refine PS ?_
 iterate 3 refine UT ?_
 refine PS ?_;refine nx J5 (CY (af ?_))
 iterate 5 refine PS ?_
 refine FA 2 dw bm ?_;refine LZ 1 eO bm ap s.view ?_ (hc:=by exact λ_=>c9 _);refine tp (mI MsgT.zero (MsgT.mk 7 0 RowT.zero 0 0 BallotT.zero BallotT.zero ChangeT.zero s.view) [(0,[Value.int .i64 7]),(8,ints s.view.flat)] bj bA (g:=MsgT.sg)) ?_;refine CZ jM (jX V r s from' (kD s.view) (λe=>absurd (hfe e) (by omega))) (SM [1]) λvR=>?_
 refine nx J4 (aj (ag (WK [0] (dV rfl ?_))));exact congrArg (λq=>[cU V r q]) (show(ja V.toDk s ([SaidT.mk from' (kD s.view)]))=ez V.toDk f s from' m by rw[ez,if_pos h15,if_pos (.inl h18)];rfl);refine PS ?_;refine FA 0 bj aR ?_;refine LU 0 Y3 (eZ m rfl) ?_;refine PS ?_;refine aq ?_ ?_<;>intro h22;refine PS ?_;refine nx J5 (CY (af ?_))
 iterate 5 refine PS ?_
 refine FA 2 dw bm ?_;refine LZ 1 eO bm ap s.view ?_ (hc:=by exact λ_=>c9 _);refine tp (mI MsgT.zero (MsgT.mk 7 0 RowT.zero 0 0 BallotT.zero BallotT.zero ChangeT.zero s.view) [(0,[Value.int .i64 7]),(8,ints s.view.flat)] bj bA (g:=MsgT.sg)) ?_;refine CZ jM (jX V r s from' (kD s.view) (λe=>absurd (hfe e) (by omega))) (SM [1]) λvR=>?_
 refine nx J4 (aj (ag (WK [0] (dV rfl ?_))));exact congrArg (λq=>[cU V r q]) (show(ja V.toDk s ([SaidT.mk from' (kD s.view)]))=ez V.toDk f s from' m by rw[ez,if_pos h15,if_pos (.inr h22)];rfl);refine PS ?_;refine nx J5 (CN (qx J4 (aj (ag (WK [1] (dV rfl ?_))))));exact congrArg (λq=>[cU V r q]) (show s=ez V.toDk f s from' m by rw[ez,if_pos h15,if_neg (by omega)]);refine DN (ae J3 (CN (qx J2 (aa λ_ J6=>aa λ_ J7=>DC mixed (BL 0) (db 1 rfl rfl) ?_))));refine FD 0 177 bj aR ?_;refine LR 1 Y3 (eS m rfl) ?_;refine PD 2 ?_;refine PD 3 ?_;refine FD 4 2 dw bm ?_;refine FD 5 2 eO aR ?_;refine ta 6 rfl (dz (v:=(.int .i64 (s.view.epoch))) rfl Y3 rfl rfl (λ_ h=>h.2.2.1) (λa_=>(cr (s.rep a_) 0 rfl (by decide) (be _ rfl)))) ?_;refine PD 7 ?_;refine jA ?_ ?_<;>intro h40;refine PD 8 ?_;refine NT 9 ?_;refine NT 10 ?_;refine NT 11 ?_;refine NT 12 ?_;refine NT 13 ?_;refine NT 14 ?_;refine NT 15 ?_;refine NT 16 ?_;refine NT 17 ?_;refine NT 18 ?_;refine PD 19 ?_;refine DN (ae J7 (CY (aj (ag (WK [1] (dV rfl ?_))))));exact congrArg (λq=>[cU V r q]) (show s=ez V.toDk f s from' m by rw[ez,if_neg h15,if_pos (.inl (by omega))]);refine PD 8 ?_;refine PD 9 ?_;refine PD 10 ?_;refine FD 11 2 dw bm ?_;refine tb 12 rfl (gx (vs:=ints s.view.flat) rfl eO rfl bm rfl (λ_ h=>h.2.2.1) (ap s.view) (λa_=>(gn (s.rep a_) 0 rfl (by decide) (whole (ap ((s.rep a_).view)))))) ?_;refine PD 13 ?_;refine PD 14 ?_;refine FD 15 0 dw aR ?_
 refine tb 16 rfl (dz (v:=(.int .i64 (s.id))) rfl Y3 rfl rfl (λ_ h=>h.2.2.1) (λa_=>(cR _ rfl))) ?_;refine AL 17 ?_;refine CE qU (dR s.view s.id) ID ?_;refine bh ?_ ?_<;>intro h50;refine EN (PD 18 ?_);refine PD 19 ?_;refine DN (ae J7 (CN (qx J6 (aa λ_ J8=>D1 0 mixed ?_))));refine PD 0 ?_;refine PD 1 ?_;refine PD 2 ?_;refine FD 3 1066 dw aR ?_;refine FD 5 178 bj cH ?_;refine FD 6 178 kG aR ?_;refine LX 7 Y3 (.int .i64 (m.ballot.round)) ?_ (hc:=by exact MsgT.pt_ballot m 0 rfl (by decide) (fo m.ballot rfl));refine AL 4 ?_;refine LG 1 Y3 (.int .i64 (s.round)) ?_ (hc:=by exact λa_=>(wJ _ rfl));refine EN (ta 8 rfl (zR rfl rfl rfl) ?_);refine PD 9 ?_;refine FD 10 1066 dw aR ?_;refine AL 11 ?_;refine SK 1 aR (λ_=>da _) ?_ (hc:=by exact λa_=>(mz _ rfl _));refine EN (DN (ae J8 (sr λ_ J9=>FA 0 bj aR ?_)));refine LU 0 Y3 (eZ m rfl) ?_;refine nx J9 (av (sr λ_ J10=>PS ?_));refine aq ?_ ?_<;>intro h67;refine PS ?_;refine nx J10 (CY (af (P3 ?_)));refine LW 0 bj cp aJ ?_;refine CZ PY ((h3 (by omega) (by omega))) (SM [1]) λvR=>?_
 refine ax (ai (WK [0] (bC rfl ?_)));exact congrArg (λq=>[cU V r q]) (show(f (dB s (max s.round m.ballot.round)))=ez V.toDk f s from' m by rw[ez,if_neg h15,if_neg (λh=>h.elim (λh=>absurd h (by omega)) (λh=>by rw[h50]at h;cases h))]);refine PS ?_;refine nx J10 (CN (sr λ_ J11=>PS ?_));refine aq ?_ ?_<;>intro h74;refine PS ?_;refine nx J11 (CY (af (P3 ?_)));refine LW 0 bj cp aJ ?_;refine CZ PX ((h5 (by omega) (by omega))) (SM [1]) λvR=>?_
 refine ax (ai (WK [0] (bC rfl ?_)));exact congrArg (λq=>[cU V r q]) (show(f (dB s (max s.round m.ballot.round)))=ez V.toDk f s from' m by rw[ez,if_neg h15,if_neg (λh=>h.elim (λh=>absurd h (by omega)) (λh=>by rw[h50]at h;cases h))]);refine PS ?_;refine nx J11 (CN (sr λ_ J12=>PS ?_));refine aq ?_ ?_<;>intro h81;refine cz (H':=w5 V r (dB s (max s.round m.ballot.round)) (.pointer none)::[ak b7 (ints m.flat) 163]) (λ_ q=>ui (hv (by omega)) (aD [1] rfl q)) (PS ?_);refine nx J12 (CY (aa λ_ J13=>DC mixed (db 0 rfl rfl) (BL 1) ?_));refine PD 0 ?_;refine PD 1 ?_;refine FD 2 1067 dw nF ?_;refine ta 3 rfl (dz (v:=(.pointer none)) rfl qf rfl rfl (λ_ h=>h.2.1) (λa_=>(cd _ rfl))) ?_;refine ta 4 rfl (jD rfl qf rfl rfl) ?_;refine PD 5 ?_;refine NT 6 ?_;refine NT 7 ?_;refine NT 8 ?_;refine NT 9 ?_;refine NT 10 ?_;refine NT 11 ?_;refine NT 12 ?_;refine NT 13 ?_;refine NT 14 ?_;refine NT 15 ?_;refine NT 16 ?_;refine NT 17 ?_;refine PD 18 ?_;refine DN (ae J13 (CN (aV (ai (aF (H':=[cU V r (dB s (max s.round m.ballot.round))]) (dH _) (λ_ q=>o8 (hv (by omega)) (an [0] rfl q)) (bC rfl ?_))))));exact congrArg (λq=>[cU V r q]) (show(dB s (max s.round m.ballot.round))=ez V.toDk f s from' m by rw[ez,if_neg h15,if_neg (λh=>h.elim (λh=>absurd h (by omega)) (λh=>by rw[h50]at h;cases h)),hn (by omega)]);refine PS ?_;refine nx J12 (CN (sr λ_ J14=>PS ?_));refine aq ?_ ?_<;>intro h105
 refine cz (H':=w5 V r (dB s (max s.round m.ballot.round)) (.pointer none)::[ak b7 (ints m.flat) 163]) (λ_ q=>ui (hv (by omega)) (aD [1] rfl q)) (PS ?_);refine nx J14 (CY (aa λ_ J15=>DC mixed (db 0 rfl rfl) (BL 1) ?_));refine PD 0 ?_;refine PD 1 ?_;refine FD 2 1067 dw nF ?_;refine ta 3 rfl (dz (v:=(.pointer none)) rfl qf rfl rfl (λ_ h=>h.2.1) (λa_=>(cd _ rfl))) ?_;refine ta 4 rfl (jD rfl qf rfl rfl) ?_;refine PD 5 ?_;refine NT 6 ?_;refine NT 7 ?_;refine NT 8 ?_;refine NT 9 ?_;refine NT 10 ?_;refine NT 11 ?_;refine NT 12 ?_;refine NT 13 ?_;refine PD 14 ?_;refine DN (ae J15 (CN (aV (ai (aF (H':=[cU V r (dB s (max s.round m.ballot.round))]) (dH _) (λ_ q=>o8 (hv (by omega)) (an [0] rfl q)) (bC rfl ?_))))));exact congrArg (λq=>[cU V r q]) (show(dB s (max s.round m.ballot.round))=ez V.toDk f s from' m by rw[ez,if_neg h15,if_neg (λh=>h.elim (λh=>absurd h (by omega)) (λh=>by rw[h50]at h;cases h)),hn (by omega)]);refine PS ?_;refine nx J14 (CN (aV (ai (WK [1] (bC rfl ?_)))));exact congrArg (λq=>[cU V r q]) (show(dB s (max s.round m.ballot.round))=ez V.toDk f s from' m by rw[ez,if_neg h15,if_neg (λh=>h.elim (λh=>absurd h (by omega)) (λh=>by rw[h50]at h;cases h)),hn (by omega)]);refine EN (PD 18 ?_);refine PD 19 ?_;refine DN (ae J7 (CY (aj (ag (WK [1] (dV rfl ?_))))));exact congrArg (λq=>[cU V r q]) (show s=ez V.toDk f s from' m by rw[ez,if_neg h15,if_pos (.inr h50)])
theorem Bt(v:VoteT)(w:Int)(b:BallotT):(gY v w b).1.change=v.change:=by unfold gY;split<;>rfl
theorem qF{δ:Type}(V:Env δ)(r:Nat)(s:MS δ)(vt:VoteT)(from':Int)(m:MsgT)[OkR V.toDk s][OkMg m](hfe:from'=s.id→m.epoch=s.view.epoch)(hk:m.kind=4∨m.kind=6)(hv:s.vote=some vt)(hp:m.kind=4→(eX vt from' m.ballot m.had m.change).2=true→DT 92 #[.pointer (some ⟨r,0,none⟩), .iface V.T V.ov] T0 [cU V r (la (dB s (max s.round m.ballot.round)) (eX vt from' m.ballot m.had m.change).1)] (dA (λ_ H=>H=[cU V r (jJ V.toDk (la (dB s (max s.round m.ballot.round)) (eX vt from' m.ballot m.had m.change).1) (eX vt from' m.ballot m.had m.change).1)]))):
    DT 126 #[(.pointer (some ⟨r,0,none⟩)),(.iface V.T V.ov),(.int .i64 (from')),(.agg (ints m.flat).toArray)] T0 [cU V r s] (dA (λ_ H=>H=[cU V r (ez V.toDk (λs_=>if m.kind=4 then oA V.toDk from' m s_ else kh V.toDk from' m s_) s from' m)])):=by
 refine BD 124 Tryz.func126 rfl rfl rfl λw0 F hF=>?_
 have hov:OkVt vt:=OkR.vote vt hv;refine sr λ_ J1=>XY (ints m.flat) λb7=>?_
 refine nx J1 (aa λ_ J2=>aa λ_ J3=>DC mixed (BL 0) (db 1 rfl rfl) ?_);refine FD 0 177 bj aR ?_;refine LR 1 Y3 (eS m rfl) ?_;refine PD 2 ?_;refine PD 3 ?_;refine FD 4 2 dw bm ?_;refine FD 5 2 eO aR ?_;refine ta 6 rfl (dz (v:=(.int .i64 (s.view.epoch))) rfl Y3 rfl rfl (λ_ h=>h.2.2.1) (λa_=>(cr (s.rep a_) 0 rfl (by decide) (be _ rfl)))) ?_;refine PD 7 ?_;refine jA ?_ ?_<;>intro h15;refine DN (ae J3 (CY (aa λ_ J4=>sr λ_ J5=>FA 0 bj aR ?_)));refine LU 0 Y3 (eZ m rfl) ?_;refine PS ?_;refine aq ?_ ?_<;>intro h18;refine PS ?_
 iterate 3 refine UT ?_
 refine PS ?_;refine nx J5 (CY (af ?_))
 iterate 5 refine PS ?_
 refine FA 2 dw bm ?_;refine LZ 1 eO bm ap s.view ?_ (hc:=by exact λ_=>c9 _);refine tp (mI MsgT.zero (MsgT.mk 7 0 RowT.zero 0 0 BallotT.zero BallotT.zero ChangeT.zero s.view) [(0,[Value.int .i64 7]),(8,ints s.view.flat)] bj bA (g:=MsgT.sg)) ?_;refine CZ jM (jX V r s from' (kD s.view) (λe=>absurd (hfe e) (by omega))) (SM [1]) λvR=>?_
 refine nx J4 (aj (ag (WK [0] (dV rfl ?_))));exact MQ (by rw[ez,if_pos h15,if_pos (.inl h18)];rfl);refine PS ?_;refine FA 0 bj aR ?_;refine LU 0 Y3 (eZ m rfl) ?_;refine PS ?_;refine aq ?_ ?_<;>intro h22;refine PS ?_;refine nx J5 (CY (af ?_))
 iterate 5 refine PS ?_
 refine FA 2 dw bm ?_;refine LZ 1 eO bm ap s.view ?_ (hc:=by exact λ_=>c9 _);refine tp (mI MsgT.zero (MsgT.mk 7 0 RowT.zero 0 0 BallotT.zero BallotT.zero ChangeT.zero s.view) [(0,[Value.int .i64 7]),(8,ints s.view.flat)] bj bA (g:=MsgT.sg)) ?_;refine CZ jM (jX V r s from' (kD s.view) (λe=>absurd (hfe e) (by omega))) (SM [1]) λvR=>?_
 refine nx J4 (aj (ag (WK [0] (dV rfl ?_))));exact MQ (by rw[ez,if_pos h15,if_pos (.inr h22)];rfl);refine PS ?_;refine nx J5 (CN (qx J4 (aj (ag (WK [1] (dV rfl ?_))))));exact MQ (by rw[ez,if_pos h15,if_neg (by omega)]);refine DN (ae J3 (CN (qx J2 (aa λ_ J6=>aa λ_ J7=>DC mixed (BL 0) (db 1 rfl rfl) ?_))));refine FD 0 177 bj aR ?_;refine LR 1 Y3 (eS m rfl) ?_;refine PD 2 ?_;refine PD 3 ?_;refine FD 4 2 dw bm ?_;refine FD 5 2 eO aR ?_;refine ta 6 rfl (dz (v:=(.int .i64 (s.view.epoch))) rfl Y3 rfl rfl (λ_ h=>h.2.2.1) (λa_=>(cr (s.rep a_) 0 rfl (by decide) (be _ rfl)))) ?_;refine PD 7 ?_;refine jA ?_ ?_<;>intro h40;refine PD 8 ?_;refine NT 9 ?_;refine NT 10 ?_;refine NT 11 ?_;refine NT 12 ?_;refine NT 13 ?_;refine NT 14 ?_;refine NT 15 ?_;refine NT 16 ?_;refine NT 17 ?_;refine NT 18 ?_;refine PD 19 ?_;refine DN (ae J7 (CY (aj (ag (WK [1] (dV rfl ?_))))));exact MQ (by rw[ez,if_neg h15,if_pos (.inl (by omega))]);refine PD 8 ?_;refine PD 9 ?_;refine PD 10 ?_;refine FD 11 2 dw bm ?_;refine tb 12 rfl (gx (vs:=ints s.view.flat) rfl eO rfl bm rfl (λ_ h=>h.2.2.1) (ap s.view) (λa_=>(gn (s.rep a_) 0 rfl (by decide) (whole (ap ((s.rep a_).view)))))) ?_;refine PD 13 ?_;refine PD 14 ?_;refine FD 15 0 dw aR ?_;refine tb 16 rfl (dz (v:=(.int .i64 (s.id))) rfl Y3 rfl rfl (λ_ h=>h.2.2.1) (λa_=>(cR _ rfl))) ?_;refine AL 17 ?_;refine CE qU (dR s.view s.id) ID ?_;refine bh ?_ ?_<;>intro h50;refine EN (PD 18 ?_);refine PD 19 ?_
 refine DN (ae J7 (CN (qx J6 (aa λ_ J8=>D1 0 mixed ?_))));refine PD 0 ?_;refine PD 1 ?_;refine PD 2 ?_;refine FD 3 1066 dw aR ?_;refine FD 5 178 bj cH ?_;refine FD 6 178 kG aR ?_;refine LX 7 Y3 (.int .i64 (m.ballot.round)) ?_ (hc:=by exact MsgT.pt_ballot m 0 rfl (by decide) (fo m.ballot rfl));refine AL 4 ?_;refine LG 1 Y3 (.int .i64 (s.round)) ?_ (hc:=by exact λa_=>(wJ _ rfl));refine EN (ta 8 rfl (zR rfl rfl rfl) ?_);refine PD 9 ?_;refine FD 10 1066 dw aR ?_;refine AL 11 ?_;refine SK 1 aR (λ_=>da _) ?_ (hc:=by exact λa_=>(mz _ rfl _));refine EN (DN (ae J8 (sr λ_ J9=>FA 0 bj aR ?_)));refine LU 0 Y3 (eZ m rfl) ?_;refine nx J9 (av (sr λ_ J10=>PS ?_));refine aq ?_ ?_<;>intro h67
 · exact absurd h67 (by omega)
 refine PS ?_;refine nx J10 (CN (sr λ_ J11=>PS ?_));refine aq ?_ ?_<;>intro h74
 · exact absurd h74 (by omega)
 refine PS ?_;refine nx J11 (CN (sr λ_ J12=>PS ?_));refine aq ?_ ?_<;>intro h81;refine Sf (H':=λvb:Nat=>w5 V r (dB s (max s.round m.ballot.round)) (.pointer (some ⟨vb,0,none⟩))::ak vb (VoteT.cells vt) 207::[ak b7 (ints m.flat) 163]) (λ_ q=>nN (s:=(dB s (max s.round m.ballot.round))) hv (aD [1] rfl q)) (λvb=>PS ?_);refine nx J12 (CY (aa λ_ J13=>D1 2 mixed ?_));refine PD 0 ?_;refine PD 1 ?_;refine FD 2 1067 dw nF ?_;refine AL 3 ?_;refine LG 0 qf (.pointer (some ⟨vb,0,none⟩)) ?_ (hc:=by exact λa_=>(cd _ rfl));refine EN (ta 4 rfl (jU rfl qf rfl rfl) ?_);refine PD 5 ?_;refine PD 6 ?_;refine PD 7 ?_;refine FD 8 1067 dw nF ?_;refine PD 10 ?_;refine FD 11 178 bj cH ?_;refine tb 12 rfl (aP (vs:=ints m.ballot.flat) rfl kG rfl cH rfl (λ_ h=>h.2.1) (au m.ballot) (jE m 0 rfl (by decide) (whole (au m.ballot)))) ?_;refine FD 13 180 bj cH ?_;refine tb 14 rfl (aP (vs:=ints m.had.flat) rfl kG rfl cH rfl (λ_ h=>h.2.1) (au m.had) (Su m 0 rfl (by decide) (whole (au m.had)))) ?_;refine FD 15 182 bj fT ?_;refine tb 16 rfl (aP (vs:=ints m.change.flat) rfl n5 rfl fT rfl (λ_ h=>h.2.1) (aN m.change) (n8 m 0 rfl (by decide) (whole (aN m.change)))) ?_;refine AL 9 ?_;refine LG 0 qf (.pointer (some ⟨vb,0,none⟩)) ?_ (hc:=by exact λa_=>(cd _ rfl));refine EN (AL 17 ?_);refine CE PW (Fy vb vt from' m.ballot m.had m.change (OkMg.ballot) hov.ballot) (SM [1]) ?_;refine bh ?_ ?_<;>intro h99;refine EN (PD 18 ?_)
 refine DN (ae J13 (CY (af (cz (H':=cU V r (la (dB s (max s.round m.ballot.round)) ((eX vt from' m.ballot m.had m.change).1))::[ak b7 (ints m.flat) 163]) (λ_ q=>o6 (aD [1,0] rfl q)) (P2 ?_)))));refine CZ MH ((hp (by omega) h99)) ID λvR=>?_
 refine ax (ai (WK [0] (bC rfl ?_)))
 exact congrArg (λq=>[cU V r q]) (show _=ez V.toDk (λs_=>if m.kind=4 then oA V.toDk from' m s_ else kh V.toDk from' m s_) s from' m by
                              rw[ez,if_neg h15,if_neg (λh=>h.elim (λh=>absurd h (by omega)) (λh=>by rw[h50]at h;cases h)),if_pos (by omega),oA];simp only[show(dB s (max s.round m.ballot.round)).vote=some vt from hv]
                              rw[if_pos h99])
 refine EN (PD 18 ?_);refine DN (ae J13 (CN (aV (ai (aF (H':=[cU V r (la (dB s (max s.round m.ballot.round)) (eX vt from' m.ballot m.had m.change).1)]) (dH _) (λ_ q=>o6 (an [1,0] rfl q)) (bC rfl ?_))))))
 exact congrArg (λq=>[cU V r q]) (show(la (dB s (max s.round m.ballot.round)) (eX vt from' m.ballot m.had m.change).1)=ez V.toDk (λs_=>if m.kind=4 then oA V.toDk from' m s_ else kh V.toDk from' m s_) s from' m by
                              rw[ez,if_neg h15,if_neg (λh=>h.elim (λh=>absurd h (by omega)) (λh=>by rw[h50]at h;cases h)),if_pos (by omega),oA];simp only[show(dB s (max s.round m.ballot.round)).vote=some vt from hv]
                              rw[if_neg (by rw[h99];decide)])
 refine PS ?_;refine nx J12 (CN (sr λ_ J14=>PS ?_));refine aq ?_ ?_<;>intro h105;refine Sf (H':=λvb:Nat=>w5 V r (dB s (max s.round m.ballot.round)) (.pointer (some ⟨vb,0,none⟩))::ak vb (VoteT.cells vt) 207::[ak b7 (ints m.flat) 163]) (λ_ q=>nN (s:=(dB s (max s.round m.ballot.round))) hv (aD [1] rfl q)) (λvb=>PS ?_);refine nx J14 (CY (aa λ_ J15=>D1 2 mixed ?_));refine PD 0 ?_;refine PD 1 ?_;refine FD 2 1067 dw nF ?_;refine AL 3 ?_;refine LG 0 qf (.pointer (some ⟨vb,0,none⟩)) ?_ (hc:=by exact λa_=>(cd _ rfl));refine EN (ta 4 rfl (jU rfl qf rfl rfl) ?_);refine PD 5 ?_;refine PD 6 ?_;refine PD 7 ?_;refine FD 8 1067 dw nF ?_;refine PD 10 ?_;refine FD 11 178 bj cH ?_;refine tb 12 rfl (aP (vs:=ints m.ballot.flat) rfl kG rfl cH rfl (λ_ h=>h.2.1) (au m.ballot) (jE m 0 rfl (by decide) (whole (au m.ballot)))) ?_;refine AL 9 ?_;refine LG 0 qf (.pointer (some ⟨vb,0,none⟩)) ?_ (hc:=by exact λa_=>(cd _ rfl));refine EN (AL 13 ?_);refine CE PT (FI vb vt from' m.ballot (OkMg.ballot) hov.ballot) (SM [1]) ?_;refine bh ?_ ?_<;>intro h119;refine EN (PD 14 ?_);refine DN (ae J15 (CY (af (cz (H':=cU V r (la (dB s (max s.round m.ballot.round)) ((gY vt from' m.ballot).1))::[ak b7 (ints m.flat) 163]) (λ_ q=>o6 (aD [1,0] rfl q)) (P2 ?_)))));refine CZ PR (Co V r (la (dB s (max s.round m.ballot.round)) (gY vt from' m.ballot).1) (gY vt from' m.ballot).1 rfl) ID λvR=>?_
 refine ax (ai (WK [0] (bC rfl ?_)))
 exact congrArg (λq=>[cU V r q]) (show _=ez V.toDk (λs_=>if m.kind=4 then oA V.toDk from' m s_ else kh V.toDk from' m s_) s from' m by
                                rw[ez,if_neg h15,if_neg (λh=>h.elim (λh=>absurd h (by omega)) (λh=>by rw[h50]at h;cases h)),if_neg (by omega),kh];simp only[show(dB s (max s.round m.ballot.round)).vote=some vt from hv]
                                rw[if_pos h119,Bt])
 refine EN (PD 14 ?_);refine DN (ae J15 (CN (aV (ai (aF (H':=[cU V r (la (dB s (max s.round m.ballot.round)) (gY vt from' m.ballot).1)]) (dH _) (λ_ q=>o6 (an [1,0] rfl q)) (bC rfl ?_))))))
 exact congrArg (λq=>[cU V r q]) (show(la (dB s (max s.round m.ballot.round)) (gY vt from' m.ballot).1)=ez V.toDk (λs_=>if m.kind=4 then oA V.toDk from' m s_ else kh V.toDk from' m s_) s from' m by
                                rw[ez,if_neg h15,if_neg (λh=>h.elim (λh=>absurd h (by omega)) (λh=>by rw[h50]at h;cases h)),if_neg (by omega),kh];simp only[show(dB s (max s.round m.ballot.round)).vote=some vt from hv]
                                rw[if_neg (by rw[h119];decide)])
 · exact absurd h105 (by omega)
 refine EN (PD 18 ?_);refine PD 19 ?_;refine DN (ae J7 (CY (aj (ag (WK [1] (dV rfl ?_))))));exact MQ (by rw[ez,if_neg h15,if_pos (.inr h50)])
end Go.Proofs.YtfocodjhmkokpaaGreatDoor
end
