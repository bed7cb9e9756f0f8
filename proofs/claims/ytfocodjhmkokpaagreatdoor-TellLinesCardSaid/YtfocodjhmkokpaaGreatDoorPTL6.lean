/-
  Joined texts:what a statement's proof reaches.
-/
import Derived.Test.YtfocodjhmkokpaaGreatDoorPTL5
set_option maxHeartbeats 8000000
set_option maxRecDepth 100000
set_option linter.unusedSimpArgs false
set_option linter.unusedVariables false
section
namespace Go.Proofs.YtfocodjhmkokpaaGreatDoor
open Go Leg Codec Api Dsk Wal
theorem Ki{T U:Nat}{bs:List Nat}{b:Nat}(h: ¬bs.length%6=0):pc T U (bs++[b]) bs.length=ib T U b []:=by
 unfold pc;rw[if_neg h,List.getD_eq_getElem?_getD,List.getElem?_append_right (aL _),yR];rfl
theorem FG{T U:Nat}{bs:List Nat}{b:Nat}(hl: ¬bs.length%6=0){H:List HP}{h:Hl}(s:bD (ib T U b []::kp T U bs::H) h):bD (kp T U (bs++[b])::H) h:=va T U bs b (by rw[Ki hl];exact s)
theorem Cw:
 DT 41 #[] T0 [] (dm (λv H=>∃n,v= .pointer (some ⟨n,0,none⟩)∧H=[eJ 135 184 5 n (List.replicate 25 [])])):=by
 refine Leg.Does.body (vs:=[]) (n:=26) Tryz.func41 rfl rfl rfl (λw0 F hF=>?_);refine sr λ_ J1=>?_
 refine pJ ?_;refine nx J1 ?_;refine sr λ_ J2=>?_
 refine tp (j6 (cells:=#[(.pointer none),(.pointer none),(.pointer none),(.pointer none),(.pointer none),(.pointer none),(.pointer none),(.pointer none),(.pointer none),(.pointer none),(.pointer none),(.pointer none),(.pointer none),(.pointer none),(.pointer none),(.pointer none),(.pointer none),(.pointer none),(.pointer none),(.pointer none),(.pointer none),(.pointer none),(.pointer none),(.pointer none),(.pointer none)]) rfl rfl (by as_aux_lemma=>kernel_rfl)) ?_;refine TL.box (aa rfl) rfl rfl rfl rfl (λb5=>?_);change TL _ _ _ _ _ _ _ _ _ [ah b5 [(.pointer none),(.pointer none),(.pointer none),(.pointer none),(.pointer none),(.pointer none),(.pointer none),(.pointer none),(.pointer none),(.pointer none),(.pointer none),(.pointer none),(.pointer none),(.pointer none),(.pointer none),(.pointer none),(.pointer none),(.pointer none),(.pointer none),(.pointer none),(.pointer none),(.pointer none),(.pointer none),(.pointer none),(.pointer none)] 135];refine pJ ?_;refine nx J2 ?_;refine ab λ_ J3=>?_
 refine sr λ_ J4=>?_
 refine mv ?_;refine nx J4 ?_;refine au ?_
 refine bn (α:=(Nat)×(List Nat)) (λ⟨i,bs⟩=>i≤5∧bs.length=i*5) (λ⟨i,bs⟩=>[(0,(.pointer none)),(1,(.pointer (some ⟨b5,0,none⟩))),(6,(.int .i64 (((i:Nat):Int))))]) (λ⟨i,bs⟩=>[ah b5 (lN (bs)) 135,kp 184 5 (bs)]) (λ⟨i,bs⟩=>5-i) (0,[])
  ⟨aM _,rfl⟩ (aK (aK (bA rfl (by congr 1) (np _))))
  (λ_ s=>aC [1,0] rfl (FC 184 5 s)) (λ⟨i,bs⟩ hinv=>?_)
 obtain⟨hi,hbs⟩:=hinv;refine sr λ_ J5=>?_
 refine tp (L9 rfl rfl rfl) ?_;refine ao (λh7=>?_) (λh7=>?_);refine nx J5 ?_;refine ab λ_ J6=>?_
 refine iU rfl ?_;refine aT ?_;refine ac J6 ?_;refine ab λ_ J7=>?_
 refine au ?_;refine sr λ_ J8=>?_
 refine mv ?_;refine pJ ?_;refine nx J8 ?_;refine sr λ_ J9=>?_
 refine mv ?_;refine nx J9 ?_;refine au ?_
 refine bn (α:=(Nat)×(List Nat)) (λ⟨j,bs2⟩=>j≤5∧bs2.length=i*5+j) (λ⟨j,bs2⟩=>[(0,(.pointer none)),(1,(.pointer (some ⟨b5,0,none⟩))),(2,(.int .i64 (((i:Nat):Int)))),(6,(.int .i64 (((i:Nat):Int)))),(9,(.int .i64 (((j:Nat):Int))))]) (λ⟨j,bs2⟩=>[ah b5 (lN (bs2)) 135,kp 184 5 (bs2)]) (λ⟨j,bs2⟩=>5-j) (0,bs)
  ⟨aM _,hbs⟩ (aK (aK (aK (aK (bA rfl (by congr 1) (np _))))))
  (λ_ s=>s) (λ⟨j,bs2⟩ hinv=>?_)
 obtain⟨hj,hbl⟩:=hinv;refine sr λ_ J10=>?_
 refine tp (L9 rfl rfl rfl) ?_;refine ao (λh10=>?_) (λh10=>?_);refine nx J10 ?_;refine ab λ_ J11=>?_
 refine iU rfl ?_;refine aT ?_;refine ac J11 ?_;refine ab λ_ J12=>?_
 refine au ?_;refine sr λ_ J13=>?_
 refine mv ?_;refine pJ ?_;refine nx J13 ?_;refine sr λ_ J14=>?_
 refine mv ?_;refine mv ?_;refine tp (PV.neq rfl rfl rfl) ?_;refine ao (λh14=>?_) (λh14=>?_);refine nx J14 ?_;refine iU rfl ?_;refine oz (λw=>Frm F w∧True) dp rfl (λ_ s=>⟨eb s,trivial⟩) ?_;refine ta 0 rfl (cq rfl rfl) ?_;refine ta 1 rfl (cq rfl rfl) ?_;refine ta 2 rfl (cq rfl rfl) ?_;refine ta 4 rfl (gf rfl rfl) ?_;refine ta 5 rfl (aZ (r:=0) rfl Tryz.underlying135 rfl Mb rfl rfl) ?_;refine ta 6 rfl (eu (r:=i*5) rfl Tryz.underlying133 Mc rfl rfl (by omega) (by omega) (by omega)) ?_;refine cE [3] (by kernel_rfl) rfl ?_;refine aF rfl ?_ ?_;refine hZ (A:=[]) (aa rfl) rfl rfl rfl P6 rfl (DD) (λ_ s=>s) (λ_ _ _=>trivial) (λvR HR hR=>?_);obtain⟨bx,rfl,rfl⟩:=hR;change TL _ _ _ _ _ _ _ _ _ [ib 184 5 bx [],ah b5 (lN (bs2)) 135,kp 184 5 (bs2)];refine ap ?_;refine nl (λ_ s=>⟨eb s,trivial⟩) ?_;refine ta 7 rfl (eu (r:=i*5+j) rfl Tryz.underlying132 IM rfl rfl (by omega) (by omega) (by omega)) ?_;refine cE [8] (by kernel_rfl) rfl ?_;refine aF rfl ?_ ?_;refine bz (i:=1) (H':=[ib 184 5 bx [],ah b5 (lN (bs2++[bx])) 135,kp 184 5 (bs2)]) (aa rfl) rfl rfl rfl rfl rfl IM rfl rfl (by rw[zg];omega) (by rw[show i*5+j=bs2.length by omega];exact Hh (by omega) (by omega)) rfl ?_;refine ap ?_;refine nl (λ_ s=>⟨eb s,trivial⟩) ?_;refine QT (by kernel_rfl) ?_;refine ag ?_;refine ac J12 ?_;refine ad ?_;refine tp (cr rfl rfl rfl (bH (by omega) (by omega))) ?_;refine mv ?_;refine ap ?_
 exact aI ((j+1,bs2++[bx]):(Nat)×(List Nat)) ⟨by omega,by rw[ae,gq];omega⟩ (by show 5- (j+1)<5-j;omega)
  (aK (aK (aK (aK (bA rfl (by simp) (np _))))))
  (λ_ s=>show bD [ah b5 (lN (bs2++[bx])) 135,kp 184 5 (bs2++[bx])] _ from aC [1,0] rfl (FG (by omega) (ak [0,1,0] rfl s)))
 exact bB;exact bB;refine nx J14 ?_;refine tt rfl ?_;refine aT ?_;refine ag ?_;refine ac J12 ?_;refine ad ?_;refine tp (cr rfl rfl rfl (bH (by omega) (by omega))) ?_;refine mv ?_;refine ap ?_
 exact aI ((j+1,bs2++[0]):(Nat)×(List Nat)) ⟨by omega,by rw[ae,gq];omega⟩ (by show 5- (j+1)<5-j;omega)
  (aK (aK (aK (aK (bA rfl (by simp) (np _))))))
  (λ_ s=>show bD [ah b5 (lN (bs2++[0])) 135,kp 184 5 (bs2++[0])] _ by rw[Ey (by omega)];exact aC [1,0] rfl (Dz 184 5 bs2 (by omega) (aC [1,0] rfl s)))
 refine nx J10 ?_;refine ab λ_ J15=>?_
 refine tt rfl ?_;refine aX ?_;refine aA ?_;refine aA ?_;refine bl ?_;refine ag ?_;refine ac J7 ?_;refine ad ?_;refine tp (cr rfl rfl rfl (bH (by omega) (by omega))) ?_;refine mv ?_;refine ap ?_
 exact aI ((i+1,bs2):(Nat)×(List Nat)) ⟨by omega,by omega⟩ (by show 5- (i+1)<5-i;omega)
  (aK (aK (bA rfl (by simp) (np _))))
  (λ_ s=>s)
 refine nx J5 ?_;refine ab λ_ J16=>?_
 refine tt rfl ?_;refine aX ?_;refine aA ?_;refine aA ?_;refine bl ?_;refine ac J3 ?_;refine sr λ_ J17=>?_
 refine mv ?_;refine pJ ?_;refine nx J17 ?_;refine ai ?_;refine aE (H':=[eJ 135 184 5 b5 (List.replicate 25 [])]) (db _) (λ_ s=>bp (p:=λbs:List Nat=>[ah b5 (fb bs) 135,fL 184 5 bs (List.replicate 25 [])]) (H:=[]) bs (by rw[←Hi (by omega),←FF (by omega)];exact s)) ?_;refine av rfl rfl ?_;exact⟨b5,rfl,rfl⟩
end Go.Proofs.YtfocodjhmkokpaaGreatDoor
end

section
namespace Leg
open Go Codec Api
def eN(n:Nat)(D M P:Nat→Value):List Value:= .pointer (some ⟨n,0,none⟩)::((List.range 5).map D++((List.range 5).map M++(List.range 5).map P))
section
variable (n:Nat) (D M P:Nat→Value) {i:Nat}
theorem rU:(eN n D M P).length=16:=by simp[eN]
theorem Dt:(eN n D M P)[0]?=some (.pointer (some ⟨n,0,none⟩)):=rfl
theorem Du(h:i<5):(eN n D M P)[1+i]?=some (D i):=by
 rw[jr,eN,List.getElem?_cons_succ,List.getElem?_append_left (by simpa using h)];simp[h]
theorem xP(h:i<5):(eN n D M P)[6+i]?=some (M i):=by
 rw[show 6+i=(5+i)+1 by omega,eN,List.getElem?_cons_succ,List.getElem?_append_right (by simp),List.getElem?_append_left (by simp;omega)];simp[h]
theorem Pa(h:i<5):(eN n D M P)[11+i]?=some (P i):=by
 rw[show 11+i=(10+i)+1 by omega,eN,List.getElem?_cons_succ,List.getElem?_append_right (by simp;omega),List.getElem?_append_right (by simp;omega)];simp only[bT,js];rw[show 10+i-5-5=i by omega];simp[h]
end
def la{α:Type}(f:Nat→α)(i:Nat)(v:α):Nat→α:=λj=>if j=i then v else f j
theorem iZ{α:Type}(f:Nat→α)(i:Nat)(v:α):la f i v i=v:=if_pos rfl
theorem mQ{α:Type}(f:Nat→α){i j:Nat}(v:α)(h:j≠i):la f i v j=f j:=if_neg h
theorem AU{α:Type}(f:Nat→α){i k:Nat}(h:i<k)(v:α):((List.range k).map f).set i v=(List.range k).map (la f i v):=by
 refine List.ext_getElem? λj=>?_
 by_cases hj:j=i
 · subst hj
   rw[List.getElem?_set_self (by simpa using h)];simp[h,iZ]
 · rw[List.getElem?_set_ne (λe=>hj e.symm)]
   by_cases hk:j<k
   · simp[hk,mQ f v hj]
   · simp[hk]
section
variable (n:Nat) (D M P:Nat→Value) {i:Nat} (v:Value)
theorem LO(h:i<5):(eN n D M P).set (1+i) v=eN n (la D i v) M P:=by
 rw[jr,eN,bS,qC _ _ (by simpa using h),AU D h];rfl
theorem vN(h:i<5):(eN n D M P).set (6+i) v=eN n D (la M i v) P:=by
 rw[show 6+i=(5+i)+1 by omega,eN,bS,gp _ _ (by simp),qC _ _ (by simp;omega)];simp only[bT,js];rw[show 5+i-5=i by omega,AU M h];rfl
theorem Gn(h:i<5):(eN n D M P).set (11+i) v=eN n D M (la P i v):=by
 rw[show 11+i=(10+i)+1 by omega,eN,bS,gp _ _ (by simp;omega),gp _ _ (by simp;omega)];simp only[bT,js];rw[show 10+i-5-5=i by omega,AU P h];rfl
end
abbrev N3(c i:Nat):Value:= .agg #[.pointer (some ⟨c,0,none⟩), .int .i64 ((i:Nat):Int)]
end Leg
namespace Go.Proofs.YtfocodjhmkokpaaGreatDoor
open Go Leg Codec Api Dsk Wal
section
variable {CT NT BT U c n d i:Nat} {D M P:Nat→Value} {W:List (List (List UInt8))} {recs:List (List UInt8)} {l:List SaidT} {H:List HP} {h:Hl}
end
theorem Bh(b c s r:Nat)(us:List Value)(x:Value)(bs:List UInt8)(hb:bs.length≤1000000)(hroom:us.length<8):
 DT 116 #[(.pointer (some ⟨b,0,none⟩)),x] (IsW x bs) [ah b [(.chan (some c))] 184,ee c 8 (us) (s) (r)] (dm (λv H=>v= .bool true∧∃u,H=[ah b [(.chan (some c))] 184,ee c 8 (us++[u]) (s+1) r,ce u bs 5])):=by
 refine Leg.Does.body (vs:=[(.pointer (some ⟨b,0,none⟩)),x]) (n:=15) Tryz.func116 rfl rfl rfl (λw0 F hF=>?_);refine sr λ_ J1=>?_
 refine pJ ?_;refine nx J1 ?_;refine ab λ_ J2=>?_
 refine sr λ_ J3=>?_
 refine mv ?_;refine tp (gf rfl rfl) ?_;refine tp (aZ (r:=0) rfl DJ rfl uF rfl rfl) ?_;refine tp (e4 (v:=(.chan (some c))) rfl vz rfl rfl (dS 0 rfl rfl) rfl) ?_;refine nx J3 ?_;refine ad ?_;refine DM (aa rfl) rfl rfl rfl fE jK (λv9=>?_);change TL _ _ _ _ _ _ _ _ _ [ce v9 ([]) 5,ah b [(.chan (some c))] 184,ee c 8 (us) (s) (r)];refine mv ?_;refine cj (k:=0) (news:=dH (bs)) (nn':=(bs:List UInt8).length) (xs':=dH (bs)) (aa rfl) rfl rfl rfl fE yc rfl rfl rfl rfl rfl rfl (λ_ _=>hF.src (λ_ h=>eb h)) (eV _) (by simp only[maxLen,aw];omega) (by simp only[aw];omega) (by simp) (bK _) (λv11 ov11=>?_);change TL _ _ _ _ _ _ _ _ _ [ce v11 (bs) 5,ah b [(.chan (some c))] 184,ee c 8 (us) (s) (r)];refine nx J2 ?_;refine ab λ_ J4=>?_
 refine yJ ?_;change TX _ _ _ _ _ _ [0,1,2] _ _ _;refine TX.sendRoom 2 rfl (aa rfl) rfl rfl rfl z53 rfl rfl rfl rfl hroom ?_;change TX _ _ _ _ _ _ _ _ _ [ce v11 (bs) 5,ah b [(.chan (some c))] 184,ee c 8 (us++[v11]) (s+1) (r)];refine tr rfl (aa rfl) rfl rfl (gX (vs:=[(.int .i64 0),(.bool false)]) rfl rfl rfl) ?_;refine tr rfl (aa rfl) rfl rfl (Pi rfl rfl rfl) ?_;refine L4 ?_;refine ac J4 ?_;refine au ?_;refine iU rfl ?_;refine sr λ_ J5=>?_
 refine pJ ?_;refine nx J5 ?_;refine ai ?_;refine aH ?_;refine aE (db _) (λ_ s=>ak [1,1,0] rfl s) ?_;refine av rfl rfl ?_;exact⟨rfl,_,rfl⟩
theorem xS(b c s r:Nat)(us:List Value)(ls:List (List UInt8))(h8:ls.length≤8)(hb: ∀x∈ls,x.length≤1000000):
    DT 78 #[(.pointer (some ⟨b,0,none⟩))] T0 [ah b [(.chan (some c))] 184,ee c 8 (us) (s) (r),eD (us) (ls) 5] (dm (λv H=>((ls.length=0∨ls.length=8)∧v= .bool false∧H=[ah b [(.chan (some c))] 184,ee c 8 us s r,eD us ls 5])∨(ls.length≠0∧ls.length≠8∧v= .bool true∧∃un,H=[ah b [(.chan (some c))] 184,ee c 8 (us++[un]) (s+us.length+1) (r+us.length),eD us ls 5,ce un (ls.getD 0 []) 5]))):=by
 refine BD 41 Tryz.func78 rfl rfl rfl λw0 F hF=>sr λ_ J1=>PS ?_
 refine nx J1 (sr λ_ J2=>PS ?_);refine CE EH (tm b c s r us ls) ID ?_;change TL _ _ _ _ _ _ _ _ _ [ah b [(.chan (some c))] 184,ee c 8 (us) (s) (r),eD (us) (ls) 5];refine yH (p:=us.length=ls.length) (λw m=>(qQ 2 rfl rfl m).1) (λhul=>PS ?_);refine nx J2 (ab λ_ J3=>sr λ_ J4=>P2 ?_);refine ao ?_ ?_<;>intro h10;refine PS ?_
 iterate 7 refine UT ?_
 refine PS ?_;refine nx J4 (CY (sr λ_ J5=>PS ?_));refine nx J5 (ai (af (WK [0,0,0] (av rfl rfl ?_))));exact .inl ⟨by omega,rfl,rfl⟩;refine P4 ?_;refine FA 0 DJ uF ?_;refine LA 0 vz ?_;refine tq (PV.capChan 1 rfl vz rfl rfl rfl) ?_;refine PS ?_;refine ao ?_ ?_<;>intro h18;refine PS ?_;refine nx J4 (CY (sr λ_ J6=>PS ?_));refine nx J6 (ai (af (WK [0,0,0] (av rfl rfl ?_))));exact .inl ⟨by omega,rfl,rfl⟩;refine PS ?_;refine nx J4 (CN (qx J3 (sr λ_ J7=>PS ?_)));refine nx J7 (ab λ_ J8=>sr λ_ J9=>P2 ?_);refine nx J9 (au ?_)
 refine bn (α:=(Nat)) (λk=>k≤us.length) (λk=>[(0,(.pointer (some ⟨b,0,none⟩))),(2,(.bool false)),(4,(CU k (us.getD 0 undef))),(20,(.int .i64 (((ls.length:Nat):Int)))),(21,(.int .i64 (((k:Nat):Int))))]) (λk=>[ah b [(.chan (some c))] 184,ee c 8 (us.drop k++us.take k) (s+k) (r+k),eD (us) (ls) 5]) (λk=>us.length-k) 0
     (aM _) SB
     (λ_ q=>by simpa using q) (λk hinv=>?_)
 obtain hk:=hinv;refine sr λ_ J10=>PS ?_
 refine ao ?_ ?_<;>intro h22;have hku:k<us.length:=by omega
 refine nx J10 (ab λ_ J11=>CY (qx J11 (ab λ_ J12=>au (sr λ_ J13=>P2 ?_))));refine nx J13 (ab λ_ J14=>yJ (tr rfl (aa rfl) rfl rfl (cq rfl rfl) (tr rfl (aa rfl) rfl rfl (gf rfl rfl) (tr rfl (aa rfl) rfl rfl (aZ (r:=0) rfl DJ rfl uF rfl rfl) (tr rfl (aa rfl) rfl rfl (e4 (v:=(.chan (some c))) rfl vz rfl rfl (RO 0) rfl) (TX.recv1 1 rfl (aa rfl) rfl rfl rfl vz z53 rfl rfl rfl (I1 hku) (tr rfl (aa rfl) rfl rfl (pF rfl rfl) (L4 (ac J14 (ab λ_ J15=>?_))))))))));refine sr λ_ J16=>P2 ?_
 refine ao ?_ ?_<;>intro h30;refine nx J16 (CY (ad (P2 ?_)));refine nx J15 (yJ (tr rfl (aa rfl) rfl rfl (cq rfl rfl) (tr rfl (aa rfl) rfl rfl (gf rfl rfl) (tr rfl (aa rfl) rfl rfl (aZ (r:=0) rfl DJ rfl uF rfl rfl) (tr rfl (aa rfl) rfl rfl (e4 (v:=(.chan (some c))) rfl vz rfl rfl (RO 0) rfl) (tr rfl (aa rfl) rfl rfl (cq rfl rfl) (TX.send1 1 rfl (aa rfl) rfl rfl rfl rfl rfl rfl (by simp only[ae,bG,bh];omega) (L4 (ag (ac J12 (ad ?_)))))))))));refine AD ?_;refine PS ?_;refine ap ?_
 exact aI ((k+1):(Nat)) (by omega) (by show us.length- (k+1)<us.length-k;omega)
   (aK (aK (bA rfl (by first|exact JM (by omega) hku|exact JK (by omega)) SB)))
   (λ_ q=>by
      rw[Ch hku]at q
      exact q)
 refine nx J16 (CN (qx J15 (yJ (tr rfl (aa rfl) rfl rfl (cq rfl rfl) (tr rfl (aa rfl) rfl rfl (gf rfl rfl) (tr rfl (aa rfl) rfl rfl (aZ (r:=0) rfl DJ rfl uF rfl rfl) (tr rfl (aa rfl) rfl rfl (e4 (v:=(.chan (some c))) rfl vz rfl rfl (RO 0) rfl) (tr rfl (aa rfl) rfl rfl (cq rfl rfl) (TX.send1 1 rfl (aa rfl) rfl rfl rfl rfl rfl rfl (by simp only[ae,bG,bh];omega) (L4 (ag ?_)))))))))));refine ac J12 (ad (AD ?_));refine PS ?_;refine ap ?_
 exact aI ((k+1):(Nat)) (by omega) (by show us.length- (k+1)<us.length-k;omega)
   (aK (aK (bA rfl (by first|exact JM (by omega) hku|exact JK (by omega)) SB)))
   (λ_ q=>by
      rw[Ch hku]at q
      exact q)
 obtain rfl:k=us.length:=by omega
 have hpos:0<ls.length:=by omega
 have hg:ls.getD 0 []=ls[0]:=by simp[List.getD_eq_getElem?_getD,hpos]
 refine cm (H':=[ah b [(.chan (some c))] 184,ee c 8 us (s+us.length) (r+us.length),eD us ls 5]) (λ_ q=>by simpa using q) (nx J10 (ab λ_ J17=>CN (aX (aA (aA (bl (ac J8 (sr λ_ J18=>P2 ?_))))))))
 refine hZ (aa rfl) rfl rfl rfl Jv rfl (Bh b c (s+us.length) (r+us.length) us (CU us.length (us.getD 0 undef)) (ls.getD 0 []) (hb _ (hg▸cH hpos)) (by omega)) (λ_ s=>s) (λg d s=>by
          rw[JL (by omega),hg]
          exact Gv (uk 0 hpos rfl rfl g d s)) (λvR HR hR=>?_)
 obtain⟨rfl,un,rfl⟩:=hR;refine PS ?_;refine nx J18 (ai (WK [0,0,1,0] (av rfl rfl ?_)));exact .inr ⟨by omega,by omega,rfl,un,rfl⟩
theorem yC(b:Nat)(ls:List (List UInt8))(h8:ls.length≤8)(hb: ∀x∈ls,x.length≤1000000):DT 78 #[.pointer (some ⟨b,0,none⟩)] T0 [ib 184 5 b ls] (RI (.bool (IA ls)) [ib 184 5 b (D9 ls)]):=
 Leg.Does.pack (B:=[]) λq=>Leg.Does.fold (xS b q.1 q.2.2.1 q.2.2.2 q.2.1 ls h8 hb) λe H hp=>by
  cases e with
  |returned v=>
   unfold IA D9;rcases hp with⟨h,rfl,rfl⟩| ⟨h1,h2,rfl,un,rfl⟩
   · exact⟨[ib 184 5 b ls],λ_ s=>bp (p:=λq:Nat×List Value×Nat×Nat=>[ah b [.chan (some q.1)] 184,ee q.1 8 q.2.1 q.2.2.1 q.2.2.2,eD q.2.1 ls 5]) (H:=[]) q s,by rw[decide_eq_false (by omega)],by rw[if_neg (by omega)]⟩
   · refine⟨[ib 184 5 b (ls++[ls.getD 0 []])],λ_ s=>?_,by rw[decide_eq_true (by omega)],by rw[if_pos (by omega)];rfl⟩
     have s1:=Ap 3 rfl rfl s;have s2:=aC [2,2] rfl s1;have s3:=uu s2;exact bp (p:=λq:Nat×List Value×Nat×Nat=>[ah b [.chan (some q.1)] 184,ee q.1 8 q.2.1 q.2.2.1 q.2.2.2,eD q.2.1 (ls++[ls.getD 0 []]) 5]) (H:=[]) (q.1,q.2.1++[un],q.2.2.1+q.2.1.length+1,q.2.2.2+q.2.1.length) (aC [1,1,0] rfl s3)
  |panicked c=>exact hp.elim
  |outgrown=>exact hp.elim
theorem tk(b:Nat)(ls:List (List UInt8))(h8:ls.length≤8)(hb: ∀x∈ls,x.length≤1000000):
 DT 79 #[(.pointer (some ⟨b,0,none⟩))] T0 [ib 184 5 b (ls)] (dm (λv H=>H=[ib 184 5 b (sC ls)])):=by
 refine BD 16 Tryz.func79 rfl rfl rfl λw0 F hF=>sr λ_ J1=>PS ?_
 refine nx J1 (sr λ_ J2=>PS ?_);refine CR Mx (tl b ls) ID λvR HR hR=>?_
 rcases hR with⟨rfl,rfl,rfl⟩| ⟨u,f,lt,rfl,rfl,rfl⟩
 refine P4 ?_;refine PS ?_;refine nx J2 (sr λ_ J3=>P2 ?_)
 iterate 3 refine UF ?_
 refine P2 ?_;exact nx J3 (ai (WK [0] (av rfl rfl rfl)));refine P4 ?_;refine PS ?_;refine nx J2 (sr λ_ J4=>P4 ?_);refine CF Jv (vc b lt u f (hb f (eC ..))) ID (λg d s=>Gv (AW 0 rfl rfl g d s)) ?_;refine P2 ?_;refine nx J4 (ai (WK [0] (av rfl rfl ?_)));exact congrArg (λq=>[ib 184 5 b q]) (if_pos (show lt.length<8 by have:=h8;rw[am]at this;omega))
end Go.Proofs.YtfocodjhmkokpaaGreatDoor
end

section
namespace Leg
open Go
def RdG(S:World→Prop)(b:Nat){α:Type}(c:α→List Value)(T:TypeId):Prop:=∀w,S w→∃a,w.heap[b]?=some (.cells (c a).toArray T (0,0))
abbrev hid{α:Type}(b:Nat)(c:α→List Value)(T:TypeId)(R:α→List HP):HP:=pack (λa=>ah b (c a) T::R a)
section
variable {P:Program} {w0:World} {F:Hl} {n:Nat} {ops:Array Oper} {Q:QQ} {D:List Deferred} {L:List (Nat×Value)} {H:List HP} {o:Oper} {l:List Oper} {d:Nat} {S:World→Prop} {α:Type} {b j:Nat} {c c':α→List Value} {T:TypeId} {R R':α→List HP}
theorem Sat.packOpen{p:α→List HP}{w:World}(i:Nat)(s:Sat H F w)(hi:i<H.length)(hH:H.getD i (λ_=>True)=pack p): ∃a,Sat (p a++H.eraseIdx i) F w:=by
 obtain⟨h,d,e,x⟩:=s;have y:=eE i hi x;rw[hH]at y;obtain⟨a,z⟩:=fu (p:=p) (H:=H.eraseIdx i) (h:=h) y;exact⟨a,h,d,e,z⟩
theorem Sat.packShut{p:α→List HP}{w:World}(i:Nat)(hi:i<H.length)(a:α)(s:Sat (p a++H.eraseIdx i) F w):Sat (H.set i (pack p)) F w:=by
 obtain⟨h,d,e,x⟩:=s;exact⟨h,d,e,kO i hi (bp a x)⟩
theorem RdG.own(i:Nat)(hi:Nat.blt i H.length=true)(hH:H.getD i (λ_=>True)=hid b c T R):RdG (Sat H F) b c T:=λw s=>by
 obtain⟨a,t⟩:=s.packOpen i (lb hi) hH;exact⟨a,t.block 0 (by simp) rfl⟩
abbrev cU:= @RdG.own
theorem PV.load1G{t:TypeId}{x:Operand}{dt:TypeDesc}{v:Value}(ho:o.op= .load t x)(ht:P.underlying t=some dt)(hp:ek dt=true)(hx:cB L x=some (.pointer (some ⟨b,j,none⟩)))(hR:RdG S b c T)(hc: ∀a,(c a)[j]?=some v):PV P n D L S o v:=
 λa w f m=>by
  obtain⟨y,hy⟩:=hR w m;exact e4 (S:=λw'=>w'=w) ho ht hp hx (λ_ e=>e▸hy) (hc y) a w f rfl
abbrev di:= @PV.load1G
theorem PV.loadNG{t:TypeId}{x:Operand}{dt:TypeDesc}{m:Nat}{vs:List Value}(ho:o.op= .load t x)(ht:P.underlying t=some dt)(hp:ek dt=false)(hm:(P.info? t).map (·.size)=some m)(hx:cB L x=some (.pointer (some ⟨b,j,none⟩)))(hR:RdG S b c T)(hl:vs.length=m)(hc: ∀a,((c a).drop j).take m=vs):PV P n D L S o (.agg vs.toArray):=
 λa w f s=>by
  obtain⟨y,hy⟩:=hR w s;exact aN (S:=λw'=>w'=w) ho ht hp hm hx (λ_ e=>e▸hy) hl (hc y) a w f rfl
abbrev fX:= @PV.loadNG
theorem TL.storeG{i:Nat}{t:TypeId}{x y:Operand}{v:Value}{vs:List Value}(hw:Want n D ops o L)(ho:o.op= .store t x y)(hd:o.dst=none)
 (hx:cB L x=some (.pointer (some ⟨b,j,none⟩))) (hy:cB L y=some v) (hv:v.cells=vs.toArray) (hs:(P.info? t).map (·.size)=some vs.length) (h1: ∀u∈vs,u.oneCell'=true)
 (hi:Nat.blt i H.length=true) (hH:H.getD i (λ_=>True)=hid b c T R) (hl: ∀a,j+vs.length≤(c a).length) (hcs: ∀a,wr (c a) j vs=c' a)
 (h:TL P w0 F n ops Q l D L (H.set i (hid b c' T R))):TL P w0 F n ops Q (o::l) D L H:=
 TL.eff hw hd (λa w f _ m=>by
  obtain⟨q,m1⟩:=m.packOpen i (lb hi) hH;have hb:=m1.block 0 (by simp) rfl;refine⟨w.setRow b (wr (c q) j vs).toArray,by simp[execOp,ho,f.eval hx,f.eval hy,wL hv hs h1 hb (hl q)],⟨rfl,rfl,rfl,by simp⟩,?_⟩;rw[hcs q]
  exact Sat.packShut (p:=λa=>ah b (c' a) T::R a) i (lb hi) q (m1.write 0 (by simp) rfl (setRow_heap w b (c q).toArray _ T _ hb) (λk hk=>setRow_other w b k _ hk))) h
abbrev gS:= @TL.storeG
theorem TL.store1G{i:Nat}{t:TypeId}{x y:Operand}{v:Value}(hw:Want n D ops o L)(ho:o.op= .store t x y)(hd:o.dst=none)
 (hx:cB L x=some (.pointer (some ⟨b,j,none⟩))) (hy:cB L y=some v) (h1:v.oneCell'=true) (hs:(P.info? t).map (·.size)=some 1)
 (hi:Nat.blt i H.length=true) (hH:H.getD i (λ_=>True)=hid b c T R) (hl: ∀a,j< (c a).length) (hcs: ∀a,(c a).set j v=c' a)
 (h:TL P w0 F n ops Q l D L (H.set i (hid b c' T R))):TL P w0 F n ops Q (o::l) D L H:=
 gS (vs:=[v]) hw ho hd hx hy (by cases v<;>simp[Value.cells,Value.oneCell']at h1 ⊢) hs (by simpa using h1) hi hH (λa=>by have:=hl a;simp;omega)
  (λa=>by rw[←hcs a,wr,nP,if_pos (hl a)];simp) h
theorem GQ{p p' a b c d:HP}{h:Hl}(e: ∀h,p h→p' h)(s:bD (a::b::c::d::p::H) h):bD (a::b::c::d::p'::H) h:=
 cD s (λ_ x=>x) λ_ s=>cD s (λ_ x=>x) λ_ s=>cD s (λ_ x=>x) λ_ s=>cD s (λ_ x=>x) λ_ s=>cD s e λ_ x=>x
theorem Does.hid{f:FuncId}{args:Array Value}{A:List HP}{q:Value→Prop}(h: ∀a,Does P f args (λ_=>True) (ah b (c a) T::A) (dm λv H=>q v∧H=ah b (c' a) T::A)):Does P f args (λ_=>True) (Leg.hid b c T R::A) (dm λv H=>q v∧H=Leg.hid b c' T R::A):=
 Does.pack λa=>Does.withinR (B:=R a) (h a) (λ_ _ _ _=>trivial) (λ_ s=>ei (List.Perm.cons (ah b (c a) T) (List.perm_append_comm (l₁:=R a) (l₂:=A))) s) λv H hp=>by
  obtain⟨h1,rfl⟩:=hp;exact⟨_,λ_ s=>bp (p:=λa=>ah b (c' a) T::R a) a (ei (List.Perm.cons (ah b (c' a) T) (List.perm_append_comm (l₁:=A) (l₂:=R a))) s),h1,rfl⟩
end
open Api
variable {P:Program} {w0:World} {F:Hl} {n:Nat} {ops:Array Oper} {Q:QQ} {D:List Deferred} {L:List (Nat×Value)} {H:List HP} {d:Nat} {o:Oper} {l:List Oper}
section
variable {A:Type} {b:Nat} {c:A→List Value} {T:TypeId} {R:A→List HP}
theorem LG{t:TypeId}{x:Operand}{dt:TypeDesc}{j:Nat}(k:Nat)(ht:P.underlying t=some dt)(v:Value)(h:TL P w0 F n ops Q l D ((d,v)::L) H)(hw:Want n D ops o L:=by first|exact aa rfl|exact bR rfl rfl rfl)(hd:o.dst=some d:=by exact rfl)(hn:Nat.blt d n=true:=by exact rfl)(ho:o.op= .load t x:=by exact rfl)(hp:ek dt=true:=by exact rfl)(hx:cB L x=some (.pointer (some ⟨b,j,none⟩)):=by exact rfl)(hk:Nat.blt k H.length=true:=by exact rfl)(hH:H.getD k (λ_=>True)=hid b c T R:=by exact rfl)(hc: ∀a,(c a)[j]?=some v):TL P w0 F n ops Q (o::l) D L H:=dA hw hd hn (di ho ht hp hx (cU k hk hH) hc) h
theorem LZ{α:Type}{f:α→List Int}{t:TypeId}{x:Operand}{dt:TypeDesc}{j m:Nat}(k:Nat)(ht:P.underlying t=some dt)(hs:(P.info? t).map (·.size)=some m)(hf: ∀x,(ints (f x)).length=m)(y:α)(h:TL P w0 F n ops Q l D ((d, .agg (ints (f y)).toArray)::L) H)(hw:Want n D ops o L:=by first|exact aa rfl|exact bR rfl rfl rfl)(hd:o.dst=some d:=by exact rfl)(hn:Nat.blt d n=true:=by exact rfl)(ho:o.op= .load t x:=by exact rfl)(hp:ek dt=false:=by exact rfl)(hx:cB L x=some (.pointer (some ⟨b,j,none⟩)):=by exact rfl)(hk:Nat.blt k H.length=true:=by exact rfl)(hH:H.getD k (λ_=>True)=hid b c T R:=by exact rfl)(hc: ∀a,((c a).drop j).take m=ints (f y)):TL P w0 F n ops Q (o::l) D L H:=dA hw hd hn (fX ho ht hp hs hx (cU k hk hH) (hf y) hc) h
theorem SK{o:Oper}{l:List Oper}{t:TypeId}{x y:Operand}{j m:Nat}{v:Value}{c':A→List Value}(k:Nat)(hs:(P.info? t).map (·.size)=some 1)(hl: ∀a,(c a).length=m)(h:TL P w0 F n ops Q l D L (H.set k (hid b c' T R)))(hw:Want n D ops o L:=by first|exact aa rfl|exact bR rfl rfl rfl)(hd:o.dst=none:=by exact rfl)(ho:o.op= .store t x y:=by exact rfl)(hx:cB L x=some (.pointer (some ⟨b,j,none⟩)):=by exact rfl)(hy:cB L y=some v:=by exact rfl)(h1:v.oneCell'=true:=by exact rfl)(hk:Nat.blt k H.length=true:=by exact rfl)(hH:H.getD k (λ_=>True)=hid b c T R:=by exact rfl)(hj:Nat.blt j m=true:=by first|exact rfl|exact Nat.ble_eq_true_of_le (by omega))(hc: ∀a,(c a).set j v=c' a):TL P w0 F n ops Q (o::l) D L H:=TL.store1G hw ho hd hx hy h1 hs hk hH (λa=>(hl a)▸lb hj) hc h
end
end Leg
end

section
namespace Go.Proofs.YtfocodjhmkokpaaGreatDoor
open Go Leg Codec Api Dsk Wal
structure Env(δ:Type) extends Dk δ where
 T:Nat
 ov:Value
 sf:Nat
 E:δ→List SaidT→HP
 lg:Nat→δ→HP
 me : x9 Tryz.prog T ov "Send" sf
 nm:Named Tryz.prog sf
 say: ∀(e:δ) (l:List SaidT) (to':Int) (m:MsgT),ok e→Leg.Does Tryz.prog sf #[ov, .int .i64 to', .agg (ints m.flat).toArray] (λ_=>True) [E e l] (dm (λ_ H=>H=[E e (if dn e then l else l++[SaidT.mk to' m])]))
 put: ∀(g:Nat) (x:Value) (bs:List UInt8) (e:δ) (l:List SaidT),ok e→bs.length≤3000→Leg.Does Tryz.prog 155 #[.pointer (some ⟨g,0,none⟩),x] (IsW x bs) [lg g e,E e l] (dm (λv H=>v= .int .i64 (pt e bs).2∧H=[lg g (pt e bs).1,E (pt e bs).1 l]))
def FL(vo:Value):Option VoteT→HP
 |none=>λ_=>vo= .pointer none
 |some vt=>λh=>∃b,vo= .pointer (some ⟨b,0,none⟩)∧ah b (VoteT.cells vt) 207 h
abbrev cJ{δ:Type}(V:Env δ)(r:Nat)(s:MS δ):HP:=hid r (λa:Adr=>RepT.cells (s.rep a)) 87 (λa=>[V.lg a.lg s.e,own a.rs s.replies.length (ints (s.replies.flatMap ReplyT.flat)) 47 3,FL a.vo s.vote,V.E s.e s.o])
abbrev vT{δ:Type}(V:Env δ)(r:Nat)(s:MS δ)(vo:Value):HP:=hid r (λa:Nat×Value=>RepT.cells (s.rep ⟨a.1,vo,a.2⟩)) 87 (λa=>[V.lg a.1 s.e,own a.2 s.replies.length (ints (s.replies.flatMap ReplyT.flat)) 47 3,V.E s.e s.o])
theorem jH{δ:Type}{V:Env δ}{r:Nat}{f:MS δ×Int}{X:MS δ}{y:Int}(e:f=(X,y)):Value.int .i64 y= .int .i64 f.2∧[cJ V r X]=[cJ V r f.1]:=by
 subst e;exact⟨rfl,rfl⟩
theorem GY{δ:Type}(V:Env δ)(r:Nat)(s:MS δ)(to':Int)(m:MsgT)[hs:OkR V.toDk s]:DT V.sf #[V.ov, .int .i64 to', .agg (ints m.flat).toArray] T0 [cJ V r s] (dm (λ_ H=>H=[cJ V r (Es V.toDk s to' m)])):=
 Leg.Does.pack λa=>Leg.Does.withinR (V.say s.e s.o to' m hs.e) (λ_ _ _ _=>trivial) (λ_ q=>aC [4] rfl q) λv H hp=>by
  subst hp;refine⟨_,λ_ q=>?_,rfl⟩;have q2:=aC [1,1,1,1,0] rfl q;exact bp (p:=λa:Adr=>[ah r (RepT.cells (s.rep a)) 87,V.lg a.lg s.e,own a.rs s.replies.length (ints (s.replies.flatMap ReplyT.flat)) 47 3,FL a.vo s.vote,V.E s.e (if V.dn s.e then s.o else s.o++[SaidT.mk to' m])]) a q2
theorem gk{δ:Type}(V:Env δ)(r:Nat)(s:MS δ)(to':Int)(m:MsgT)(f:MS δ→MS δ)(hT:to'=s.id→DT 82 #[.pointer (some ⟨r,0,none⟩), .iface V.T V.ov, .int .i64 s.id, .agg (ints m.flat).toArray] T0 [cJ V r s] (dm (λ_ H=>H=[cJ V r (f s)])))[OkR V.toDk s]:
 DT 128 #[(.pointer (some ⟨r,0,none⟩)),(.iface V.T V.ov),(.int .i64 (to')),(.agg (ints m.flat).toArray)] T0 [cJ V r s] (dm (λ_ H=>H=[cJ V r (nz V.toDk f s to' m)])):=by
 refine Leg.Does.body (vs:=[(.pointer (some ⟨r,0,none⟩)),(.iface V.T V.ov),(.int .i64 (to')),(.agg (ints m.flat).toArray)]) (n:=28) Tryz.func128 rfl rfl rfl (λw0 F hF=>?_);refine sr λ_ J1=>?_
 refine TL.box (aa rfl) rfl rfl rfl rfl (λb7=>?_);change TL _ _ _ _ _ _ _ _ _ [ah b7 (ints m.flat) 163,cJ V r s];refine nx J1 ?_;refine ab λ_ J2=>?_
 refine sr λ_ J3=>?_
 refine mv ?_;refine mv ?_;refine tp (gf rfl rfl) ?_;refine tp (aZ (r:=0) rfl de rfl aR rfl rfl) ?_;refine tp (di (v:=(.int .i64 (s.id))) rfl Y3 rfl rfl (cU 1 rfl rfl) (λa_=>(cF (s.rep a_) rfl))) ?_;refine tp (Pi rfl rfl rfl) ?_;refine ao (λh13=>?_) (λh13=>?_);refine nx J3 ?_;refine iU rfl ?_;refine ab λ_ J4=>?_
 refine oz (λw=>Frm F w∧w.heap[b7]?=some (.cells (ints m.flat).toArray 163 (0,0))∧True) mixed rfl (λ_ s=>⟨eb s,s.block 0 (lb rfl) rfl,trivial⟩) ?_;refine ta 0 rfl (cq rfl rfl) ?_;refine ta 1 rfl (cq rfl rfl) ?_;refine ta 2 rfl (cq rfl rfl) ?_;refine ta 3 rfl (gf rfl rfl) ?_;refine ta 4 rfl (aZ (r:=0) rfl de rfl aR rfl rfl) ?_;refine ta 6 rfl (aN (vs:=ints m.flat) rfl be rfl cd rfl (λ_ h=>h.2.1) (aG m) (whole (aG m))) ?_;refine cE [5] (by kernel_rfl) rfl ?_;refine aF rfl ?_ ?_;refine tp (di (v:=(.int .i64 (s.id))) rfl Y3 rfl rfl (cU 1 rfl rfl) (λa_=>(cF (s.rep a_) rfl))) ?_;refine ap ?_;refine nl (λ_ s=>⟨eb s,s.block 0 (lb rfl) rfl,trivial⟩) ?_;refine cE [7] (by kernel_rfl) rfl ?_;refine aF rfl ?_ ?_;refine hZ (aa rfl) rfl rfl rfl N7 rfl ((by have h:=hT h13;exact h)) (λ_ s=>aC [1] rfl s) (λ_ _ _=>trivial) (λvR HR hR=>?_);obtain rfl:=hR;refine ap ?_;refine nl (λ_ s=>⟨eb s,s.block 1 (lb rfl) rfl,trivial⟩) ?_;refine QT (by kernel_rfl) ?_;refine ac J4 ?_;refine ai ?_;refine af ?_;refine aE (db _) (λ_ s=>ak [0] rfl s) ?_;refine dK rfl ?_;exact(congrArg (λq=>[cJ V r q]) (if_pos h13)).symm;exact bB;exact bB;refine nx J3 ?_;refine tt rfl ?_;refine aT ?_;refine ac J2 ?_;refine sr λ_ J5=>?_
 refine mv ?_;refine tp (PV.ifaceNotNil rfl Tryz.underlying152 rfl) ?_;refine nx J5 ?_;refine iU rfl ?_;refine ad ?_;refine mv ?_;refine mv ?_;refine tp (aN (vs:=ints m.flat) rfl be rfl cd rfl (dS 0 rfl rfl) (aG m) (whole (aG m))) ?_;refine TL.callI (aa rfl) rfl rfl rfl rfl V.me V.nm rfl (GY V r s to' m) (λ_ s=>aC [1] rfl s) (λ_ _ _=>trivial) (λvR HR hR=>?_);obtain rfl:=hR;refine ap ?_;refine aE (db _) (λ_ s=>ak [0] rfl s) ?_;refine bu rfl ?_;exact(congrArg (λq=>[cJ V r q]) (if_neg h13)).symm
theorem jw{δ:Type}(V:Env δ)(r:Nat)(s:MS δ)(to':Int)(m:MsgT)(hto:to'≠s.id)[OkR V.toDk s]:DT 128 #[.pointer (some ⟨r,0,none⟩), .iface V.T V.ov, .int .i64 to', .agg (ints m.flat).toArray] T0 [cJ V r s] (dm (λ_ H=>H=[cJ V r (iP V.toDk s [⟨to',m⟩])])):=by
 have h:=gk V r s to' m id (λe=>absurd e hto)
 rwa [show nz V.toDk id s to' m=iP V.toDk s [⟨to',m⟩]from if_neg hto]at h
theorem nZ{δ:Type}(V:Env δ)(r:Nat)(s:MS δ)(l:List SaidT)(to':Int)(m:MsgT)(hto:to'≠s.id)[OkR V.toDk s]:DT 128 #[.pointer (some ⟨r,0,none⟩), .iface V.T V.ov, .int .i64 to', .agg (ints m.flat).toArray] T0 [cJ V r (iP V.toDk s l)] (dm (λ_ H=>H=[cJ V r (iP V.toDk s (l++[⟨to',m⟩]))])):=by
 have h:=jw V r (iP V.toDk s l) to' m hto
 rwa [I0]at h
theorem MQ{δ:Type}{V:Env δ}{r:Nat}{a b:MS δ}(h:a=b):[cJ V r a]=[cJ V r b]:=by rw[h]
theorem nJ{δ:Type}(V:Env δ)(r:Nat)(s:MS δ)[OkR V.toDk s]:
 DT 83 #[(.pointer (some ⟨r,0,none⟩)),(.iface V.T V.ov)] T0 [cJ V r s] (dm (λ_ H=>H=[cJ V r (fp V.toDk s)])):=by
 refine BD 40 Tryz.func83 rfl rfl rfl λw0 F hF=>?_
 have hid:cM s.id=true:=OkR.id;have hid2:0≤s.id∧s.id<5:=of_decide_eq_true hid;refine ab λ_ J1=>DB mixed (cU 0 rfl rfl) ?_
 refine PD 0 ?_;refine PD 1 ?_;refine FD 2 0 de aR ?_;refine ta 3 rfl (di (v:=(.int .i64 (s.id))) rfl Y3 rfl rfl (λ_ h=>h.2.1) (λa_=>(cF _ rfl))) ?_;refine PD 4 ?_;refine PD 5 ?_;refine FD 6 9 de ba ?_;refine ta 7 rfl (fX (vs:=ints s.own.flat) rfl dV rfl ba rfl (λ_ h=>h.2.1) (aj s.own) (λa_=>(yK (s.rep a_) 0 rfl (by decide) (whole (aj ((s.rep a_).own)))))) ?_;refine ta 8 rfl (lv MsgT.zero (MsgT.mk 0 s.id s.own 0 0 BallotT.zero BallotT.zero ChangeT.zero ViewT.zero) [(0,[Value.int .i64 0]),(1,[Value.int .i64 s.id]),(2,ints s.own.flat)] be bv (g:=MsgT.sg)) ?_;refine AL 9 ?_;refine XZ mw (ints MsgT.zero.flat) λb4=>?_
 refine EN (AL 10 ?_);refine SW 0 cd aG ?_;refine EN (DN (ac J1 (sr λ_ J2=>P2 ?_)));refine FA 0 de aR ?_;refine LG 1 Y3 (.int .i64 (s.id)) ?_ (hc:=by exact λa_=>(cF _ rfl));refine CR Cs (qE s.id hid) ID λvR HR hR=>?_
 obtain⟨_,rfl,rfl⟩:=hR;revert vR;intro uw;refine gT 0 rfl rfl (λhluw _=>hY 0 rfl rfl (by omega) (λgw capw hvw hcapw=>tp (df rfl iO rfl hluw) ?_));refine PS ?_;refine nx J2 (au (si 2 (sr λ_ J3=>PS ?_)));refine nx J3 (ab λ_ J4=>CY (qx J4 (ab λ_ J5=>au (sr λ_ J6=>tp (bd (r:=0) hvw rfl iO aR rfl rfl (by omega) (by omega) rfl) ?_))));refine tp (ca (v:=(.int .i64 (((s.id+1)%5)))) rfl Y3 rfl rfl (fD 0 rfl hvw rfl) rfl) ?_;refine PS ?_;refine nx J6 (sr λ_ J7=>P2 ?_);refine FA 1939 de aR ?_;refine LG 2 Y3 (.int .i64 (s.kept)) ?_ (hc:=by exact λa_=>(r9 _ rfl));refine PS ?_;refine tp (j5 (r:=(s.kept.fdiv (2^min (((s.id+1)%5)).toNat IntKind.i64.bits))) rfl rfl rfl (by omega) rfl) ?_;refine tp (pG (r:=((s.kept.fdiv (2^min (((s.id+1)%5)).toNat IntKind.i64.bits))%2)) rfl rfl rfl (mask (k:=1) (by decide) _)) ?_;refine PS ?_;refine ao ?_ ?_<;>intro h33;refine nx J7 (CY (ad (P3 ?_)));refine LW 1 be cd aG ?_;refine CZ jh (jw V r s ((s.id+1)%5) (MsgT.mk 0 s.id s.own 0 0 BallotT.zero BallotT.zero ChangeT.zero ViewT.zero) (by omega)) (SM [2]) λvR=>?_
 refine ap (ag (ac J5 (ad (tp (cr (r:=1) rfl rfl rfl (by decide)) ?_))));refine PS ?_;refine ap (en (sr λ_ J8=>PS ?_));refine nx J8 (ab λ_ J9=>CY (qx J9 (ab λ_ J10=>au (sr λ_ J11=>tp (bd (r:=1) hvw rfl iO aR rfl rfl (by omega) (by omega) rfl) ?_))));refine tp (ca (v:=(.int .i64 (((s.id+2)%5)))) rfl Y3 rfl rfl (fD 1 rfl hvw rfl) rfl) ?_;refine PS ?_;refine nx J11 (sr λ_ J12=>P2 ?_);refine FA 1939 de aR ?_;refine LG 0 Y3 (.int .i64 (s.kept)) ?_ (hc:=by exact λa_=>(r9 _ rfl));refine PS ?_;refine tp (j5 (r:=(s.kept.fdiv (2^min (((s.id+2)%5)).toNat IntKind.i64.bits))) rfl rfl rfl (by omega) rfl) ?_;refine tp (pG (r:=((s.kept.fdiv (2^min (((s.id+2)%5)).toNat IntKind.i64.bits))%2)) rfl rfl rfl (mask (k:=1) (by decide) _)) ?_;refine PS ?_;refine ao ?_ ?_<;>intro h33;refine nx J12 (CY (ad (P3 ?_)));refine LW 2 be cd aG ?_;refine CZ jh (nZ V r s ([SaidT.mk ((s.id+1)%5) (MsgT.mk 0 s.id s.own 0 0 BallotT.zero BallotT.zero ChangeT.zero ViewT.zero)]) ((s.id+2)%5) (MsgT.mk 0 s.id s.own 0 0 BallotT.zero BallotT.zero ChangeT.zero ViewT.zero) (by omega)) ID λvR=>?_
 refine ap (ag (ac J10 (ad (tp (cr (r:=2) rfl rfl rfl (by decide)) ?_))));refine PS ?_;refine ap (en (sr λ_ J13=>PS ?_));refine nx J13 (ab λ_ J14=>CN (aX (aA (aA (bl (WK [0] (bu rfl ?_)))))));exact MQ (by rw[fp,show pU (s.rep .nil)=[SaidT.mk ((s.id+1)%5) (MsgT.mk 0 s.id s.own 0 0 BallotT.zero BallotT.zero ChangeT.zero ViewT.zero)]++[SaidT.mk ((s.id+2)%5) (MsgT.mk 0 s.id s.own 0 0 BallotT.zero BallotT.zero ChangeT.zero ViewT.zero)]by rw[pU,gV,if_pos hid];simp[Bk,wP,MsgT.zero,Adr.nil, *]]);refine nx J12 (CN (aT (ag (ac J10 (ad (tp (cr (r:=2) rfl rfl rfl (by decide)) ?_))))));refine PS ?_;refine ap (en (sr λ_ J15=>PS ?_));refine nx J15 (ab λ_ J16=>CN (aX (aA (aA (bl (WK [0] (bu rfl ?_)))))));exact MQ (by rw[fp,show pU (s.rep .nil)=[SaidT.mk ((s.id+1)%5) (MsgT.mk 0 s.id s.own 0 0 BallotT.zero BallotT.zero ChangeT.zero ViewT.zero)]by rw[pU,gV,if_pos hid];simp[Bk,wP,MsgT.zero,Adr.nil, *]]);refine nx J7 (CN (aT (ag (ac J5 (ad (tp (cr (r:=1) rfl rfl rfl (by decide)) ?_))))));refine PS ?_;refine ap (en (sr λ_ J17=>PS ?_));refine nx J17 (ab λ_ J18=>CY (qx J18 (ab λ_ J19=>au (sr λ_ J20=>tp (bd (r:=1) hvw rfl iO aR rfl rfl (by omega) (by omega) rfl) ?_))));refine tp (ca (v:=(.int .i64 (((s.id+2)%5)))) rfl Y3 rfl rfl (fD 0 rfl hvw rfl) rfl) ?_;refine PS ?_;refine nx J20 (sr λ_ J21=>P2 ?_);refine FA 1939 de aR ?_;refine LG 2 Y3 (.int .i64 (s.kept)) ?_ (hc:=by exact λa_=>(r9 _ rfl))
 refine PS ?_;refine tp (j5 (r:=(s.kept.fdiv (2^min (((s.id+2)%5)).toNat IntKind.i64.bits))) rfl rfl rfl (by omega) rfl) ?_;refine tp (pG (r:=((s.kept.fdiv (2^min (((s.id+2)%5)).toNat IntKind.i64.bits))%2)) rfl rfl rfl (mask (k:=1) (by decide) _)) ?_;refine PS ?_;refine ao ?_ ?_<;>intro h33;refine nx J21 (CY (ad (P3 ?_)));refine LW 1 be cd aG ?_;refine CZ jh (jw V r s ((s.id+2)%5) (MsgT.mk 0 s.id s.own 0 0 BallotT.zero BallotT.zero ChangeT.zero ViewT.zero) (by omega)) (SM [2]) λvR=>?_
 refine ap (ag (ac J19 (ad (tp (cr (r:=2) rfl rfl rfl (by decide)) ?_))));refine PS ?_;refine ap (en (sr λ_ J22=>PS ?_));refine nx J22 (ab λ_ J23=>CN (aX (aA (aA (bl (WK [0] (bu rfl ?_)))))));exact MQ (by rw[fp,show pU (s.rep .nil)=[SaidT.mk ((s.id+2)%5) (MsgT.mk 0 s.id s.own 0 0 BallotT.zero BallotT.zero ChangeT.zero ViewT.zero)]by rw[pU,gV,if_pos hid];simp[Bk,wP,MsgT.zero,Adr.nil, *]]);refine nx J21 (CN (aT (ag (ac J19 (ad (tp (cr (r:=2) rfl rfl rfl (by decide)) ?_))))));refine PS ?_;refine ap (en (sr λ_ J24=>PS ?_));refine nx J24 (ab λ_ J25=>CN (aX (aA (aA (bl (WK [2] (bu rfl ?_)))))));exact MQ (by rw[fp,show pU (s.rep .nil)=[]by rw[pU,gV,if_pos hid];simp[Bk,wP,MsgT.zero,Adr.nil, *]];exact(p4 _ _).symm)
theorem mS{δ:Type}(V:Env δ)(r:Nat)(s:MS δ)(y:RowT)[OkR V.toDk s]:
 DT 88 #[(.pointer (some ⟨r,0,none⟩)),(.iface V.T V.ov),(.agg (ints y.flat).toArray)] T0 [cJ V r s] (dm (λ_ H=>H=[cJ V r (mI V.toDk s y)])):=by
 refine BD 27 Tryz.func88 rfl rfl rfl λw0 F hF=>sr λ_ J1=>XY (ints y.flat) λb5=>?_
 refine nx J1 (sr λ_ J2=>PS ?_);refine nx J2 (au ?_)
 refine bn (α:=(Nat)) (λk=>k≤5) (λk=>[(0,(.pointer (some ⟨r,0,none⟩))),(1,(.iface V.T V.ov)),(5,(.pointer (some ⟨b5,0,none⟩))),(7,(.int .i64 (((k:Nat):Int))))]) (λk=>[ah b5 (ints y.flat) 39,cJ V r (iP V.toDk s (oa s.id (sT s.id y) (λ_=>true) k))]) (λk=>5-k) 0
  (aM _) SB
  (λ_ q=>by
  rw[show oa s.id (sT s.id y) (λ_=>true) 0=[]from rfl,p4]
  exact q) (λk hinv=>?_)
 obtain hk:=hinv;refine sr λ_ J3=>PS ?_
 refine ao ?_ ?_<;>intro h8;refine nx J3 (ab λ_ J4=>CY (qx J4 (ab λ_ J5=>au (sr λ_ J6=>P2 ?_))));refine nx J6 (sr λ_ J7=>P3 ?_);refine FA 0 de aR ?_;refine LG 1 Y3 (.int .i64 (s.id)) ?_ (hc:=by exact λa_=>(cF _ rfl));refine PS ?_;refine ao ?_ ?_<;>intro h15;refine nx J7 (CY (DC mixed (cU 1 rfl rfl) (BL 0) ?_));refine PD 0 ?_;refine PD 1 ?_;refine PD 2 ?_;refine PD 3 ?_;refine PD 4 ?_;refine FD 5 0 de aR ?_;refine ta 6 rfl (di (v:=(.int .i64 (s.id))) rfl Y3 rfl rfl (λ_ h=>h.2.1) (λa_=>(cF _ rfl))) ?_;refine LY 7 dV ba aj ?_;refine ta 8 rfl (lv MsgT.zero (MsgT.mk 2 s.id y 0 0 BallotT.zero BallotT.zero ChangeT.zero ViewT.zero) [(0,[Value.int .i64 2]),(1,[Value.int .i64 s.id]),(2,ints y.flat)] be bv (g:=MsgT.sg)) ?_;refine AL 9 ?_;refine CZ jh (nZ V r s (oa s.id (sT s.id y) (λ_=>true) k) ((k:Nat):Int) (MsgT.mk 2 s.id y 0 0 BallotT.zero BallotT.zero ChangeT.zero ViewT.zero) h15) (SM [1]) λvR=>?_
 refine EN (DN (ag (ac J5 (ad (AD ?_)))));refine PS ?_;refine ap ?_
 exact aI ((k+1):(Nat)) (by omega) (by show 5- (k+1)<5-k;omega)
  SB
  (λ_ q=>by
   rw[iD,if_pos ⟨h15,rfl⟩]
   exact ak [1,0] rfl q)
 refine nx J7 (CN (aT (ag (ac J5 (ad (AD ?_))))));refine PS ?_;refine ap ?_
 exact aI ((k+1):(Nat)) (by omega) (by show 5- (k+1)<5-k;omega)
  SB
  (λ_ q=>by
   rw[iD,if_neg (by omega)];rw[aP]
   exact ak [0,0] rfl q)
 refine nx J3 (ab λ_ J8=>CN (aX (aA (aA (bl (WK [1] (bu rfl ?_)))))));obtain rfl:k=5:=by omega
 exact rfl
theorem mR{δ:Type}(V:Env δ)(r:Nat)(s:MS δ)(v:ViewT)[OkR V.toDk s]:
 DT 86 #[(.pointer (some ⟨r,0,none⟩)),(.iface V.T V.ov),(.agg (ints v.flat).toArray)] T0 [cJ V r s] (dm (λ_ H=>H=[cJ V r (nW V.toDk s v)])):=by
 refine BD 23 Tryz.func86 rfl rfl rfl λw0 F hF=>sr λ_ J1=>XY (ints v.flat) λb5=>?_
 refine nx J1 (sr λ_ J2=>PS ?_);refine nx J2 (au ?_)
 refine bn (α:=(Nat)) (λk=>k≤5) (λk=>[(0,(.pointer (some ⟨r,0,none⟩))),(1,(.iface V.T V.ov)),(5,(.pointer (some ⟨b5,0,none⟩))),(7,(.int .i64 (((k:Nat):Int))))]) (λk=>[ah b5 (ints v.flat) 32,cJ V r (iP V.toDk s (oa s.id (ka v) (λ_=>true) k))]) (λk=>5-k) 0
  (aM _) SB
  (λ_ q=>by
  rw[show oa s.id (ka v) (λ_=>true) 0=[]from rfl,p4]
  exact q) (λk hinv=>?_)
 obtain hk:=hinv;refine sr λ_ J3=>PS ?_
 refine ao ?_ ?_<;>intro h8;refine nx J3 (ab λ_ J4=>CY (qx J4 (ab λ_ J5=>au (sr λ_ J6=>P2 ?_))));refine nx J6 (sr λ_ J7=>P3 ?_);refine FA 0 de aR ?_;refine LG 1 Y3 (.int .i64 (s.id)) ?_ (hc:=by exact λa_=>(cF _ rfl));refine PS ?_;refine ao ?_ ?_<;>intro h15;refine nx J7 (CY (ad (P3 ?_)));refine LW 0 eH bg an ?_;refine tp (lv MsgT.zero (MsgT.mk 7 0 RowT.zero 0 0 BallotT.zero BallotT.zero ChangeT.zero v) [(0,[Value.int .i64 7]),(8,ints v.flat)] be bv (g:=MsgT.sg)) ?_;refine CZ jh (nZ V r s (oa s.id (ka v) (λ_=>true) k) ((k:Nat):Int) (MsgT.mk 7 0 RowT.zero 0 0 BallotT.zero BallotT.zero ChangeT.zero v) h15) (SM [1]) λvR=>?_
 refine ap (ag (ac J5 (ad (AD ?_))));refine PS ?_;refine ap ?_
 exact aI ((k+1):(Nat)) (by omega) (by show 5- (k+1)<5-k;omega)
  SB
  (λ_ q=>by
   rw[iD,if_pos ⟨h15,rfl⟩]
   exact ak [1,0] rfl q)
 refine nx J7 (CN (aT (ag (ac J5 (ad (AD ?_))))));refine PS ?_;refine ap ?_
 exact aI ((k+1):(Nat)) (by omega) (by show 5- (k+1)<5-k;omega)
  SB
  (λ_ q=>by
   rw[iD,if_neg (by omega)];rw[aP]
   exact ak [0,0] rfl q)
 refine nx J3 (ab λ_ J8=>CN (aX (aA (aA (bl (WK [1] (bu rfl ?_)))))));obtain rfl:k=5:=by omega
 exact rfl
theorem He{δ:Type}(V:Env δ)(r lg:Nat)(x:RepT)(m:RecT)(e:δ)(l:List SaidT)(hlog:x.log= .pointer (some ⟨lg,0,none⟩))(hok:V.ok e):
 DT 114 #[(.pointer (some ⟨r,0,none⟩)),(.agg (ints m.flat).toArray)] T0 [ah r (RepT.cells x) 87,V.lg lg e,V.E e l] (RI (.int .i64 (V.pt e (kn m)).2) [ah r (RepT.cells x) 87,V.lg lg (V.pt e (kn m)).1,V.E (V.pt e (kn m)).1 l]):=by
 refine BD 12 Tryz.func114 rfl rfl rfl λw0 F hF=>sr λ_ J1=>XY (ints m.flat) λb3=>?_
 refine PS ?_;refine nx J1 (ab λ_ J2=>D2 1 0 mixed ?_);refine PD 0 ?_;refine PD 1 ?_;refine FD 2 1 de PL ?_;refine LX 3 Tryz.underlying74 (.pointer (some ⟨lg,0,none⟩)) ?_ (hc:=by exact(RepT.at_log x rfl).trans (congrArg some hlog));refine LY 4 ef fH bm ?_;refine AL 5 ?_;refine CR OH (Cj m) ID λvR HR hR=>?_
 obtain⟨_,rfl,rfl⟩:=hR;revert vR;intro ue;refine EN (AL 6 ?_);refine CF OI (V.put lg ue (kn m) e l hok (C5 m)) (SM [3,3]) (λg d s=>Gv (vL 0 rfl rfl g d s)) ?_;refine EN (PD 7 ?_);exact DN (ac J2 (ai (WK [4,0,0] (av rfl rfl ⟨rfl,rfl⟩))))
theorem lp{δ:Type}(V:Env δ)(r:Nat)(s:MS δ)(m:RecT)[hs:OkR V.toDk s]:DT 114 #[.pointer (some ⟨r,0,none⟩), .agg (ints m.flat).toArray] T0 [cJ V r s] (RI (.int .i64 (sQ V.toDk s m)) [cJ V r (ej V.toDk s m)]):=
 Leg.Does.pack λa=>Leg.Does.withinR (He V r a.lg (s.rep a) m s.e s.o rfl hs.e) (λ_ _ _ _=>trivial) (λ_ q=>aC [0,0,2] rfl q) λv H hp=>by
  obtain⟨h1,rfl⟩:=hp;exact⟨_,λ_ q=>bp (p:=λa:Adr=>[ah r (RepT.cells ((ej V.toDk s m).rep a)) 87,V.lg a.lg (ej V.toDk s m).e,own a.rs (ej V.toDk s m).replies.length (ints ((ej V.toDk s m).replies.flatMap ReplyT.flat)) 47 3,FL a.vo (ej V.toDk s m).vote,V.E (ej V.toDk s m).e (ej V.toDk s m).o]) a (aC [0,0,1,1,0] rfl q),h1,rfl⟩
theorem eY{δ:Type}(V:Env δ)(r:Nat)(s:MS δ)(op err val:Int)(hrs:s.replies.length≤1000000):DT 74 #[.pointer (some ⟨r,0,none⟩), .int .i64 op, .int .i64 err, .int .i64 val] T0 [cJ V r s] (dm (λ_ H=>H=[cJ V r (dw s op err val)])):=
 Leg.Does.pack λa=>Leg.Does.withinR (Ev r (s.rep a) op err val s.replies hrs) (λ_ _ _ _=>trivial) (λ_ q=>aC [0,1] rfl q) λv H hp=>by
  obtain⟨v',_,rfl⟩:=hp;exact⟨_,λ_ q=>bp (p:=λa:Adr=>[ah r (RepT.cells ((dw s op err val).rep a)) 87,V.lg a.lg (dw s op err val).e,own a.rs (dw s op err val).replies.length (ints ((dw s op err val).replies.flatMap ReplyT.flat)) 47 3,FL a.vo (dw s op err val).vote,V.E (dw s op err val).e (dw s op err val).o]) {a with rs:=v'} (aC [0,1,0,0,0] rfl q),rfl⟩
theorem rR{δ:Type}(V:Env δ)(r:Nat)(s:MS δ)(y:RowT)(op:Int)[OkR V.toDk s][OkRow y]:
 DT 75 #[(.pointer (some ⟨r,0,none⟩)),(.iface V.T V.ov),(.agg (ints y.flat).toArray),(.int .i64 (op))] T0 [cJ V r s] (RI (.int .i64 (eS V.toDk s y op).2) [cJ V r (eS V.toDk s y op).1]):=by
 refine BD 34 Tryz.func75 rfl rfl rfl λw0 F hF=>sr λ_ J1=>XY (ints y.flat) λb6=>?_
 refine PS ?_;refine nx J1 (ab λ_ J2=>sr λ_ J3=>PS ?_);refine LW 0 dV ba aj ?_;refine tp (lv RecT.zero (RecT.mk 0 0 y 0 BallotT.zero ChangeT.zero ViewT.zero) [(0,[Value.int .i64 0]),(2,ints y.flat)] ef e6 (g:=RecT.sg)) ?_;refine CE xa (lp V r s (kP y)) (SM [1]) ?_;refine PS ?_;refine nx J3 (sr λ_ J4=>P2 ?_);refine ao ?_ ?_<;>intro h15;refine nx J4 (CY (sr λ_ J5=>P2 ?_));refine nx J5 (ai (af (WK [0] (av rfl rfl ?_))));have e:eS V.toDk s y op=(ej V.toDk s (kP y),sQ V.toDk s (kP y)):=if_pos h15;exact jH e;refine nx J4 (CN (qx J2 (sr λ_ J6=>P4 ?_)));refine LW 1 dV ba aj ?_;refine P2 ?_;refine FA 9 de ba ?_;refine gS (vs:=ints y.flat) (i:=0) (aa rfl) rfl rfl rfl rfl rfl (by rw[(aj y)];exact ba) (bk _) rfl rfl (λ_=>LC (cT _) (aj _)) (λa_=>(QW ((ej V.toDk s (kP y)).rep a_) 0 rfl (by have h1:=(aj y);omega) (ct ((aj (((ej V.toDk s (kP y)).rep a_).own)).trans (aj y).symm)))) (PS ?_);refine FA 1938 de lc ?_;refine SK 0 lc (λ_=>cT _) ?_ (hc:=by exact λa_=>(QB _ rfl _));refine PS ?_;refine FA 1939 de aR ?_;refine SK 0 aR (λ_=>cT _) ?_ (hc:=by exact λa_=>(QA _ rfl _));refine PS ?_;refine FA 1940 de aR ?_;refine SK 0 aR (λ_=>cT _) ?_ (hc:=by exact λa_=>(RepT.set_waits _ rfl _));refine nx J6 (sr λ_ J7=>P2 ?_);refine CZ Nf (nJ V r (uY (ej V.toDk s (kP y)) y op)) ID λvR=>?_
 refine nx J7 (sr λ_ J8=>PS ?_);refine nx J8 (ai (WK [0] (av rfl rfl ?_)));have e:eS V.toDk s y op=(fp V.toDk (uY (ej V.toDk s (kP y)) y op),0):=if_neg h15;exact jH e
theorem pk(x:RowT)(who:Int)(d:RowT):
 DT 131 #[(.agg (ints x.flat).toArray),(.int .i64 (who)),(.agg (ints d.flat).toArray)] T0 [] (RI (.tuple #[.agg (ints (dU x who d).1.flat).toArray, .int .i64 (dU x who d).2]) []):=by
 refine BD 68 Tryz.func131 rfl rfl rfl λw0 F hF=>sr λ_ J1=>XY (ints x.flat) λb3=>?_
 refine XY (ints d.flat) λb5=>?_
 refine XZ uB (ints RowT.zero.flat) λb6=>?_
 refine PS ?_;refine nx J1 (ab λ_ J2=>sr λ_ J3=>PS ?_);refine CE Lc (kb who) ID ?_;refine bc ?_ ?_<;>intro h11;have hw:cM who=true:=by simpa using h11
 have hw2:0≤who∧who<5:=of_decide_eq_true hw;refine PS ?_;refine nx J3 (CN (qx J2 (ab λ_ J4=>sr λ_ J5=>PS ?_)));refine FA 29 dV eW ?_;refine IX (29+who.toNat) jO aR ?_;refine LT 2 Y3 (.int .i64 ((x.heir[who.toNat]'(by omega)))) ?_ (hc:=by exact rZ x (who.toNat) (by omega) (by omega) (kq x.heir (by omega)));refine PS ?_;refine ao ?_ ?_<;>intro h18;refine nx J5 (CY (sr λ_ J6=>BV ((ints RowT.zero.flat).toArray) ?_));refine SW 0 ba aj ?_;refine PS ?_;refine nx J6 (ai (af (RT 0 [] dV ba (aj _) ?_)));have e:dU x who d=(.zero,8):=by rw[dU,hw,fT,dif_pos hw,if_neg (by decide),if_pos h18]
 exact⟨by rw[e],rfl⟩;refine nx J5 (CN (qx J4 (ab λ_ J7=>D1 1 mixed ?_)));refine PD 0 ?_;refine PD 1 ?_;refine FD 2 0 dV aR ?_;refine LR 3 Y3 (cy d rfl) ?_;refine ta 4 rfl (cr (r:=(fQ (d.version+1))) rfl rfl rfl rfl) ?_;refine FD 5 1 dV lG ?_;refine ta 6 rfl (aN (vs:=ints (bQ d.cells.toList)) rfl Bo rfl lG rfl (λ_ h=>h.2.1) (eg d.cells) (DO d 0 rfl (by decide) (whole (eg d.cells)))) ?_;refine FD 7 29 dV eW ?_;refine IY 8 (29+who.toNat) jO aR ?_;refine FD 10 34 dV BJ ?_;refine AL 9 ?_;refine bz (i:=2) (aa rfl) rfl rfl rfl rfl rfl aR rfl rfl (LB (aj _)) (RowT.st_heir x (who.toNat) (by omega) (by omega) (y1 x.heir (by omega) _)) rfl (EN (IY 11 (34+who.toNat*28) MM lG ?_));refine AL 12 ?_;refine bO (vs:=ints (bQ d.cells.toList)) (i:=2) (aa rfl) rfl rfl rfl rfl rfl (by rw[(eg d.cells)];exact lG) (bk _) rfl rfl (LC (aj _) (eg _)) (RowT.wr_left_ (RowT.mk x.version x.cells (x.heir.set who.toNat (fQ (d.version+1)) (by omega)) x.left) (who.toNat*28) (by omega) (by have h1:=(eg d.cells);omega) (uC tE x.left (i:=who.toNat) 0 (by omega) (by omega) (by have h1:=(eg d.cells);omega) (ct ((eg (x.left[who.toNat]'(by omega))).trans (eg d.cells).symm)))) rfl (EN (DN (ac J7 (ab λ_ J8=>sr λ_ J9=>FA 29 dV eW ?_))));refine tp (aN (vs:=ints d.heir.toList) rfl jO rfl eW rfl (RO 1) (dq d.heir) (Qv d 0 rfl (by decide) (whole (dq d.heir)))) ?_;refine PS ?_;refine nx J9 (au ?_)
 refine bn (α:=(Nat)×(RowT)) (λ⟨k,y⟩=>k≤5∧y=ol x who d k) (λ⟨k,y⟩=>[(1,(.int .i64 (who))),(3,(.pointer (some ⟨b3,0,none⟩))),(5,(.pointer (some ⟨b5,0,none⟩))),(6,(.pointer (some ⟨b6,0,none⟩))),(7,(.int .i64 0)),(32,(.agg (ints d.heir.toList).toArray)),(33,(.int .i64 (((k:Nat):Int))))]) (λ⟨k,y⟩=>[ah b6 (ints RowT.zero.flat) 39,ah b5 (ints d.flat) 39,ah b3 (ints y.flat) 39]) (λ⟨k,y⟩=>5-k) (0,(RowT.mk x.version x.cells (x.heir.set who.toNat (fQ (d.version+1)) (by omega)) (x.left.set who.toNat d.cells (by omega))))
  ⟨aM _,by rw[ol,oN,dif_pos hw];rfl⟩ SB
  (λ_ s=>ak [0,0,0] rfl s) (λ⟨k,y⟩ hinv=>?_)
 obtain⟨hk,hy⟩:=hinv;refine sr λ_ J10=>PS ?_
 refine ao ?_ ?_<;>intro h34;refine nx J10 (ab λ_ J11=>CY (qx J11 (ab λ_ J12=>au (sr λ_ J13=>PS ?_))));refine tp (nG (cs:=ints d.heir.toList) (v:=Value.int .i64 (d.heir[k]'(by omega))) (r:=k) rfl jO Y3 rfl aR rfl rfl (by omega) (by omega) (by omega) (kq d.heir (by omega))) ?_;refine P2 ?_;refine nx J13 (sr λ_ J14=>P3 ?_);refine ao ?_ ?_<;>intro h39;refine P3 ?_;refine ao ?_ ?_<;>intro h42;refine P3 ?_;refine FA 29 dV eW ?_;refine IX (29+k) jO aR ?_;refine LT 2 Y3 (.int .i64 ((y.heir[k]'(by omega)))) ?_ (hc:=by exact rZ y k (by omega) (by omega) (kq y.heir (by omega)));refine PS ?_;refine ao ?_ ?_<;>intro h49;refine PS ?_;refine nx J14 (CY (D1 1 mixed ?_));refine PD 0 ?_;refine PD 1 ?_;refine PD 2 ?_;refine PD 3 ?_;refine FD 4 34 dV BJ ?_;refine IY 5 (34+k*28) MM lG ?_;refine ta 6 rfl (aN (vs:=ints (bQ (d.left[k]'(by omega)).toList)) rfl Bo rfl lG rfl (λ_ h=>h.2.1) (eg (d.left[k]'(by omega))) (Gs d (k*28) (by omega) (by omega) (kJ tE d.left (i:=k) 0 (by omega) (by omega) (by decide) (whole (eg (d.left[k]'(by omega))))))) ?_;refine FD 7 29 dV eW ?_;refine IY 8 (29+k) jO aR ?_;refine FD 10 34 dV BJ ?_;refine AL 9 ?_;refine bz (i:=2) (aa rfl) rfl rfl rfl rfl rfl aR rfl rfl (LB (aj _)) (RowT.st_heir y k (by omega) (by omega) (y1 y.heir (by omega) _)) rfl (EN (IY 11 (34+k*28) MM lG ?_));refine AL 12 ?_
 refine bO (vs:=ints (bQ (d.left[k]'(by omega)).toList)) (i:=2) (aa rfl) rfl rfl rfl rfl rfl (by rw[(eg (d.left[k]'(by omega)))];exact lG) (bk _) rfl rfl (LC (aj _) (eg _)) (RowT.wr_left_ (RowT.mk y.version y.cells (y.heir.set k (d.heir[k]'(by omega)) (by omega)) y.left) (k*28) (by omega) (by have h1:=(eg (d.left[k]'(by omega)));omega) (uC tE y.left (i:=k) 0 (by omega) (by omega) (by have h1:=(eg (d.left[k]'(by omega)));omega) (ct ((eg (y.left[k]'(by omega))).trans (eg (d.left[k]'(by omega))).symm)))) rfl (EN (DN (ag (ac J12 (ad (AD ?_))))));refine PS ?_;refine ap ?_
 exact aI ((k+1,(RowT.mk y.version y.cells (y.heir.set k (d.heir[k]'(by omega)) (by omega)) (y.left.set k (d.left[k]'(by omega)) (by omega)))):(Nat)×(RowT)) ⟨by omega,by rw[o5,←hy,nD,gE _ (by omega),gE _ (by omega),if_pos ⟨by omega,by omega,by omega⟩,En _ (by omega),HK _ (by omega)]⟩ (by show 5- (k+1)<5-k;omega)
  SB
  (λ_ s=>ak [0,0,0] rfl s)
 refine PS ?_;refine nx J14 (CN (aT (ag (ac J12 (ad (AD ?_))))));refine PS ?_;refine ap ?_
 exact aI ((k+1,y):(Nat)×(RowT)) ⟨by omega,by rw[o5,←hy,nD,gE _ (by omega),gE _ (by omega),if_neg (by omega)]⟩ (by show 5- (k+1)<5-k;omega)
  SB
  (λ_ s=>ak [0,0,0] rfl s)
 refine P2 ?_
 iterate 5 refine UF ?_
 refine PS ?_;refine nx J14 (CN (aT (ag (ac J12 (ad (AD ?_))))));refine PS ?_;refine ap ?_
 exact aI ((k+1,y):(Nat)×(RowT)) ⟨by omega,by rw[o5,←hy,nD,gE _ (by omega),gE _ (by omega),if_neg (by omega)]⟩ (by show 5- (k+1)<5-k;omega)
  SB
  (λ_ s=>ak [0,0,0] rfl s)
 refine PS ?_;refine UF ?_;refine UF ?_;refine P2 ?_
 iterate 5 refine UF ?_
 refine PS ?_;refine nx J14 (CN (aT (ag (ac J12 (ad (AD ?_))))));refine PS ?_;refine ap ?_
 exact aI ((k+1,y):(Nat)×(RowT)) ⟨by omega,by rw[o5,←hy,nD,gE _ (by omega),gE _ (by omega),if_neg (by omega)]⟩ (by show 5- (k+1)<5-k;omega)
  SB
  (λ_ s=>ak [0,0,0] rfl s)
 refine nx J10 (ab λ_ J15=>CN (aX (aA (aA (bl (ac J8 (sr λ_ J16=>FA 0 dV aR ?_)))))));refine LU 2 Y3 (cy y rfl) ?_;refine tp (cr (r:=(fQ (y.version+1))) rfl rfl rfl rfl) ?_;refine FA 0 dV aR ?_;refine bz (i:=2) (aa rfl) rfl rfl rfl rfl rfl aR rfl rfl (LB (aj _)) (x8 y rfl _) rfl (nx J16 (sr λ_ J17=>LW 2 dV ba aj ?_));refine SW 0 ba aj ?_;refine PS ?_;refine nx J17 (ai (RT 0 [] dV ba (aj _) ?_));obtain rfl:k=5:=by omega
 subst hy;have e:dU x who d=({ol x who d 5 with version:=fQ ((ol x who d 5).version+1)},0):=by rw[dU,hw,fT,dif_pos hw,if_neg (by decide),if_neg h18]
 exact⟨by rw[e],rfl⟩;refine PS ?_;refine nx J3 (CY (sr λ_ J18=>BV ((ints RowT.zero.flat).toArray) ?_));refine SW 0 ba aj ?_;refine PS ?_;refine nx J18 (ai (af (RT 0 [] dV ba (aj _) ?_)));have hw:cM who=false:=by simpa using h11
 have e:dU x who d=(.zero,5):=by rw[dU,hw];rfl
 exact⟨by rw[e],rfl⟩
theorem zz{δ:Type}(V:Env δ)(r:Nat)(s:MS δ)[OkR V.toDk s]:
 DT 129 #[(.pointer (some ⟨r,0,none⟩))] T0 [cJ V r s] (dm (λr' H=>∃u,r'=u∧H=[own u (bI s).length (ints (bI s)) 3 1,cJ V r s])):=by
 refine BD 44 Tryz.func129 rfl rfl rfl λw0 F hF=>sr λ_ J1=>PS ?_
 refine nx J1 (sr λ_ J2=>PS ?_);refine nx J2 (ab λ_ J3=>sr λ_ J4=>PS ?_);refine nx J4 (au ?_)
 refine bn (α:=(Nat)×(Value)) (λ⟨k,u⟩=>k≤5∧u.oneCell'=true) (λ⟨k,u⟩=>[(0,(.pointer (some ⟨r,0,none⟩))),(2,(.slice none 0 0)),(3,u),(7,(.int .i64 (((k:Nat):Int))))]) (λ⟨k,u⟩=>[own u ((hO s k).length) (ints (hO s k)) 3 1,cJ V r s]) (λ⟨k,u⟩=>5-k) (0,(.slice none 0 0))
  ⟨aM _,rfl⟩ SB
  (λ_ s=>fR 3 1 (ak [0] rfl s)) (λ⟨k,u⟩ hinv=>?_)
 obtain⟨hk,hu⟩:=hinv;have hol:=H4 s k;refine sr λ_ J5=>PS ?_
 refine ao ?_ ?_<;>intro h8;refine nx J5 (ab λ_ J6=>CY (qx J6 (ab λ_ J7=>au (sr λ_ J8=>P2 ?_))));refine nx J8 (sr λ_ J9=>P2 ?_);refine FA 2 de bg ?_;refine LZ 1 eH bg an s.view ?_ (hc:=by exact λ_=>cS _);refine PS ?_;refine CE Lj (qP s.view ((k:Nat):Int) OkVw.rng) ID ?_;refine P3 ?_;refine bc ?_ ?_<;>intro h18;refine P2 ?_;refine nx J9 (sr λ_ J10=>?_)
 iterate 5 refine PS ?_
 refine FA 0 de aR ?_;refine LG 1 Y3 (.int .i64 (s.id)) ?_ (hc:=by exact λa_=>(cF _ rfl));refine PS ?_;refine ao ?_ ?_<;>intro h26
 iterate 5 refine PS ?_
 refine FA 9 de ba ?_;refine FA 38 dV eW ?_;refine IX (38+k) jO aR ?_;refine LG 1 Y3 (.int .i64 ((s.own.heir[k]'(by omega)))) ?_ (hc:=by exact λa_=>(RepT.pt_own (s.rep a_) (29+k) (by omega) (by omega) (rZ ((s.rep a_).own) k (by omega) (by omega) (kq (((s.rep a_).own).heir) (by omega)))));refine PS ?_;refine ao ?_ ?_<;>intro h36;refine PS ?_;refine nx J10 (CY (ad (P2 ?_)));refine aQ (cells:=#[(.int .i64 (((k:Nat):Int)))]) (aa rfl) rfl rfl rfl iO oD rfl rfl rfl (by as_aux_lemma=>kernel_rfl) (λb40=>cj (k:=1) (news:=[(.int .i64 (((k:Nat):Int)))]) (nn':=(hO s k).length+1) (xs':=ints (hO s k)++[(.int .i64 (((k:Nat):Int)))]) (aa rfl) rfl rfl rfl iO oD rfl rfl rfl rfl rfl rfl (λ_ _=>gW rfl (RO 0) rfl) (by simp[Value.oneCell']) (by simp only[maxLen];omega) (by omega) (by simp) (by simp) (λv41 ov41=>PS ?_));refine ap (ag (ac J7 (ad (AD ?_))));refine PS ?_;refine ap ?_
 exact aI ((k+1,v41):(Nat)×(Value)) ⟨by omega,ov41⟩ (by show 5- (k+1)<5-k;omega)
  SB
  (λ_ q=>by
   show bD [own v41 (hO s (k+1)).length (ints (hO s (k+1))) 3 1,cJ V r s] _;rw[show hO s (k+1)=hO s k++[((k:Nat):Int)]by rw[o7,if_pos (Nv h18 h26 (by rw[gE _ (by omega)];exact h36))],ae,el]
   exact ak [1,1] rfl q)
 refine PS ?_;refine nx J10 (CN (aT (ag (ac J7 (ad (AD ?_))))));refine PS ?_;refine ap ?_
 exact aI ((k+1,u):(Nat)×(Value)) ⟨by omega,hu⟩ (by show 5- (k+1)<5-k;omega)
  SB
  (λ_ q=>by
   show bD [own u (hO s (k+1)).length (ints (hO s (k+1))) 3 1,cJ V r s] _;rw[show hO s (k+1)=hO s k by rw[o7,if_neg (by intro hq;have h2:=A2 hq;rw[gE _ (by omega)]at h2;first|omega| (simp_all;done)| (simp_all;omega)),aP]]
   exact ak [0,0] rfl q)
 refine P2 ?_
 iterate 8 refine UF ?_
 refine PS ?_;refine nx J10 (CN (aT (ag (ac J7 (ad (AD ?_))))));refine PS ?_;refine ap ?_
 exact aI ((k+1,u):(Nat)×(Value)) ⟨by omega,hu⟩ (by show 5- (k+1)<5-k;omega)
  SB
  (λ_ q=>by
   show bD [own u (hO s (k+1)).length (ints (hO s (k+1))) 3 1,cJ V r s] _;rw[show hO s (k+1)=hO s k by rw[o7,if_neg (by intro hq;have h2:=A2 hq;rw[gE _ (by omega)]at h2;first|omega| (simp_all;done)| (simp_all;omega)),aP]]
   exact ak [0,0] rfl q)
 refine P2 ?_;refine nx J9 (sr λ_ J11=>P2 ?_)
 iterate 6 refine UF ?_
 refine P2 ?_
 iterate 8 refine UF ?_
 refine PS ?_;refine nx J11 (CN (aT (ag (ac J7 (ad (AD ?_))))));refine PS ?_;refine ap ?_
 exact aI ((k+1,u):(Nat)×(Value)) ⟨by omega,hu⟩ (by show 5- (k+1)<5-k;omega)
  SB
  (λ_ q=>by
   show bD [own u (hO s (k+1)).length (ints (hO s (k+1))) 3 1,cJ V r s] _;rw[show hO s (k+1)=hO s k by rw[o7,if_neg (by intro hq;have h2:=A2 hq;rw[gE _ (by omega)]at h2;first|omega| (simp_all;done)| (simp_all;omega)),aP]]
   exact ak [0,0] rfl q)
 refine nx J5 (ab λ_ J12=>CN (aX (aA (aA (bl (ac J3 (sr λ_ J13=>P2 ?_)))))));refine nx J13 (ai (WK [0,0] (av rfl rfl ?_)));obtain rfl:k=5:=by omega
 exact⟨u,rfl,rfl⟩
theorem nv{δ:Type}(V:Env δ)(r:Nat)(s:MS δ)(who w:Int)(hm:cM who=true)(hw:0≤w∧w<5):
 DT 130 #[(.pointer (some ⟨r,0,none⟩)),(.int .i64 (who)),(.int .i64 (w))] T0 [cJ V r s] (RI (.bool (wj s who w)) [cJ V r s]):=by
 refine BD 17 Tryz.func130 rfl rfl rfl λw0 F hF=>?_
 have hm2:0≤who∧who<5:=of_decide_eq_true hm;refine sr λ_ J1=>PS ?_
 refine nx J1 (sr λ_ J2=>P3 ?_);refine FA 1943 de eW ?_;refine IX (1943+who.toNat) jO aR ?_;refine LG 0 Y3 (.int .i64 ((s.told[who.toNat]'(by omega)))) ?_ (hc:=by exact λa_=>(QX (s.rep a_) (who.toNat) (by omega) (by omega) (kq ((s.rep a_).told) (by omega))));refine PS ?_;refine tp (j5 (r:=((s.told[who.toNat]'(by omega)).fdiv (2^min w.toNat IntKind.i64.bits))) rfl rfl rfl (by omega) rfl) ?_;refine tp (pG (r:=(((s.told[who.toNat]'(by omega)).fdiv (2^min w.toNat IntKind.i64.bits))%2)) rfl rfl rfl (mask (k:=1) (by decide) _)) ?_;refine P2 ?_;refine nx J2 (ai (WK [0] (av rfl rfl ?_)));exact⟨by rw[wj,rr,dif_pos hm],rfl⟩
theorem pa{δ:Type}(V:Env δ)(r:Nat)(s:MS δ)[OkR V.toDk s]:
    DT 84 #[(.pointer (some ⟨r,0,none⟩)),(.iface V.T V.ov)] T0 [cJ V r s] (dm (λ_ H=>H=[cJ V r (nd V.toDk s)])):=by
 refine BD 80 Tryz.func84 rfl rfl rfl λw0 F hF=>sr λ_ J1=>PS ?_
 refine CR Mw (zz V r s) ID λvR HR hR=>?_
 obtain⟨_,rfl,rfl⟩:=hR;revert vR;intro ud;refine gT 0 rfl rfl (λhlud houd=>PS ?_);refine nx J1 (ab λ_ J2=>sr λ_ J3=>P2 ?_);refine FA 1938 de lc ?_;refine LG 1 Y4 (.bool (s.busy)) ?_ (hc:=by exact λa_=>(yM _ rfl));refine bc ?_ ?_<;>intro h19;refine PS ?_
 iterate 3 refine UT ?_
 refine PS ?_;refine nx J3 (CY (ai (af (WK [1] (dK rfl ?_)))));exact congrArg (λq=>[cJ V r q]) (show s=nd V.toDk s from(if_pos (by rw[h19];rfl)).symm);refine P2 ?_;refine tq (df rfl iO rfl hlud) ?_;refine PS ?_;refine ao ?_ ?_<;>intro h23;refine PS ?_;refine nx J3 (CY (ai (af (WK [1] (dK rfl ?_)))));exact congrArg (λq=>[cJ V r q]) (show s=nd V.toDk s from(if_pos (by rw[h19,decide_eq_true (by omega)];rfl)).symm);refine PS ?_;refine nx J3 (CN (qx J2 (ab λ_ J4=>sr λ_ J5=>PS ?_)));refine tp (df rfl iO rfl hlud) ?_;refine PS ?_;refine nx J5 (au ?_)
 refine bn (α:=(Nat)) (λk=>k≤(bI s).length∧∀j,j<k→∀w∈gV ((bI s).getD j 0),wj s ((bI s).getD j 0) w=true) (λk=>[(0,(.pointer (some ⟨r,0,none⟩))),(1,(.iface V.T V.ov)),(4,ud),(25,ud),(26,(.int .i64 ((((bI s).length:Nat):Int)))),(27,(.int .i64 (((k:Nat):Int))))]) (λk=>[own ud ((bI s).length) (ints (bI s)) 3 1,cJ V r s]) (λk=>(bI s).length-k) 0
     ⟨aM _,λj h=>absurd h (by omega)⟩ SB
     (λ_ s=>s) (λk hinv=>?_)
 obtain⟨hk,hal⟩:=hinv;refine sr λ_ J6=>PS ?_
 refine ao ?_ ?_<;>intro h28;refine nx J6 (ab λ_ J7=>CY (qx J7 (ab λ_ J8=>au (sr λ_ J9=>?_))));have hmm1:(bI s).getD k 0∈bI s:=by rw[List.getD_eq_getElem?_getD,List.getElem?_eq_getElem (by omega)];exact cH _
 have hm1:cM ((bI s).getD k 0)=true:=(xG hmm1).1;have hn1:0≤(bI s).getD k 0∧(bI s).getD k 0<5:=of_decide_eq_true hm1;refine hY 0 rfl rfl (by omega) (λge1 ce1 he1 _=>tp (bd (r:=k) he1 rfl iO aR rfl rfl (by omega) (by omega) (by omega)) ?_);refine tp (ca (v:=(.int .i64 (((bI s).getD k 0)))) rfl Y3 rfl rfl (fD 0 rfl he1 rfl) (xt (by omega))) ?_;refine PS ?_;refine nx J9 (sr λ_ J10=>PS ?_);refine CR Cs (qE ((bI s).getD k 0) hm1) ID λvR HR hR=>?_
 obtain⟨_,rfl,rfl⟩:=hR;revert vR;intro uw;refine gT 0 rfl rfl (λhluw _=>hY 0 rfl rfl (by omega) (λgw capw hvw hcapw=>tp (df rfl iO rfl hluw) ?_));refine PS ?_;refine nx J10 (au (si 2 (sr λ_ J11=>PS ?_)));refine nx J11 (ab λ_ J12=>CY (qx J12 (ab λ_ J13=>au (sr λ_ J14=>tp (bd (r:=0) hvw rfl iO aR rfl rfl (by omega) (by omega) rfl) ?_))));refine tp (ca (v:=(.int .i64 (((((bI s).getD k 0)+1)%5)))) rfl Y3 rfl rfl (fD 0 rfl hvw rfl) rfl) ?_;refine PS ?_;refine nx J14 (sr λ_ J15=>P3 ?_);refine CE F5 (nv V r s ((bI s).getD k 0) ((((bI s).getD k 0)+1)%5) hm1 (by omega)) (SM [2]) ?_;refine bc ?_ ?_<;>intro h41;refine PS ?_;refine nx J15 (CN (aT (ag (ac J13 (ad (tp (cr (r:=1) rfl rfl rfl (by decide)) ?_))))));refine PS ?_;refine ap (en (sr λ_ J16=>PS ?_));refine nx J16 (ab λ_ J17=>CY (qx J17 (ab λ_ J18=>au (sr λ_ J19=>tp (bd (r:=1) hvw rfl iO aR rfl rfl (by omega) (by omega) rfl) ?_))));refine tp (ca (v:=(.int .i64 (((((bI s).getD k 0)+2)%5)))) rfl Y3 rfl rfl (fD 1 rfl hvw rfl) rfl) ?_;refine PS ?_;refine nx J19 (sr λ_ J20=>P3 ?_);refine CE F5 (nv V r s ((bI s).getD k 0) ((((bI s).getD k 0)+2)%5) hm1 (by omega)) ID ?_;refine bc ?_ ?_<;>intro h41;refine PS ?_;refine nx J20 (CN (aT (ag (ac J18 (ad (tp (cr (r:=2) rfl rfl rfl (by decide)) ?_))))));refine PS ?_;refine ap (en (sr λ_ J21=>PS ?_));refine nx J21 (ab λ_ J22=>CN (aX (aA (aA (bl (ag (ac J8 (ad (AD ?_)))))))));refine PS ?_
 refine ap ?_
 exact aI ((k+1):(Nat)) ⟨by omega,λj hj=>by
        by_cases q:j=k
        · subst q
          intro w hw;rw[gV,if_pos hm1]at hw;simp only[bJ,List.not_mem_nil,or_false]at hw;rcases hw with rfl|rfl<;>assumption
        · exact hal j (by omega)⟩ (by show(bI s).length- (k+1)< (bI s).length-k;omega)
   SB
   (λ_ s=>ak [2,0] rfl s)
 refine PS ?_;refine nx J20 (CY (ai (aH (af (af (aH (aH (af (af (aH (af ?_)))))))))));refine WK [0] (dK rfl ?_)
 have hb: ¬vH s=true:=λh=>by
   have h2:=List.all_eq_true.1 (List.all_eq_true.1 h _ hmm1) (((bI s).getD k 0+2)%5) (by rw[gV,if_pos hm1];simp);rw[h41]at h2;cases h2
 exact MQ (by rw[nd,if_neg (by rw[h19,decide_eq_false (by omega)];decide),if_neg hb]);refine PS ?_;refine nx J15 (CY (ai (aH (af (af (aH (aH (af (af (aH (af ?_)))))))))));refine WK [0] (dK rfl ?_)
 have hb: ¬vH s=true:=λh=>by
   have h2:=List.all_eq_true.1 (List.all_eq_true.1 h _ hmm1) (((bI s).getD k 0+1)%5) (by rw[gV,if_pos hm1];simp);rw[h41]at h2;cases h2
 exact MQ (by rw[nd,if_neg (by rw[h19,decide_eq_false (by omega)];decide),if_neg hb]);refine nx J6 (ab λ_ J23=>CN (aX (aA (aA (bl (ac J4 (sr λ_ J24=>P2 ?_)))))));refine FA 9 de ba ?_;refine LZ 1 dV ba aj s.own ?_ (hc:=by exact λ_=>DP _);refine XZ uB (ints RowT.zero.flat) λb9=>?_
 refine SW 0 ba aj ?_;refine nx J24 (ab λ_ J25=>sr λ_ J26=>PS ?_);refine tp (df rfl iO rfl hlud) ?_;refine PS ?_;refine nx J26 (au ?_)
 refine bn (α:=(Nat)×(RowT)) (λ⟨q,y⟩=>q≤(bI s).length∧y=qi s ((bI s).take q)) (λ⟨q,y⟩=>[(0,(.pointer (some ⟨r,0,none⟩))),(1,(.iface V.T V.ov)),(4,ud),(9,(.pointer (some ⟨b9,0,none⟩))),(49,ud),(50,(.int .i64 ((((bI s).length:Nat):Int)))),(51,(.int .i64 (((q:Nat):Int))))]) (λ⟨q,y⟩=>[ah b9 (ints y.flat) 39,own ud ((bI s).length) (ints (bI s)) 3 1,cJ V r s]) (λ⟨q,y⟩=>(bI s).length-q) (0,s.own)
     ⟨aM _,rfl⟩ SB
     (λ_ s=>ak [0,0,0] rfl s) (λ⟨q,y⟩ hinv=>?_)
 obtain⟨hq,hy⟩:=hinv;refine sr λ_ J27=>PS ?_
 refine ao ?_ ?_<;>intro h52;refine nx J27 (ab λ_ J28=>CY (qx J28 (ab λ_ J29=>au (sr λ_ J30=>?_))));have hmm2:(bI s).getD q 0∈bI s:=by rw[List.getD_eq_getElem?_getD,List.getElem?_eq_getElem (by omega)];exact cH _
 have hm2:cM ((bI s).getD q 0)=true:=(xG hmm2).1;have hn2:0≤(bI s).getD q 0∧(bI s).getD q 0<5:=of_decide_eq_true hm2;refine hY 1 rfl rfl (by omega) (λge1 ce1 he1 _=>tp (bd (r:=q) he1 rfl iO aR rfl rfl (by omega) (by omega) (by omega)) ?_);refine tp (ca (v:=(.int .i64 (((bI s).getD q 0)))) rfl Y3 rfl rfl (fD 1 rfl he1 rfl) (xt (by omega))) ?_;refine PS ?_;refine nx J30 (ab λ_ J31=>sr λ_ J32=>PS ?_);refine FA 29 dV eW ?_;refine IX (29+(((bI s).getD q 0)).toNat) jO aR ?_;refine LT 0 Y3 (.int .i64 ((y.heir[(((bI s).getD q 0)).toNat]'(by omega)))) ?_ (hc:=by exact rZ y ((((bI s).getD q 0)).toNat) (by omega) (by omega) (kq y.heir (by omega)));refine PS ?_;refine ao ?_ ?_<;>intro h59;refine nx J32 (CY (aX (aA (bl (ac J29 (ad (AD ?_)))))));refine PS ?_;refine ap ?_
 exact aI ((q+1,y):(Nat)×(RowT)) ⟨by omega,by rw[uX s (by omega),←hy,if_pos (by rw[fT,dif_pos hm2];exact h59)]⟩ (by show(bI s).length- (q+1)< (bI s).length-q;omega)
   SB
   (λ_ s=>ak [0,0,0] rfl s)
 refine nx J32 (CN (qx J31 (ab λ_ J33=>e5 (α:=(Nat)) (λ_=>True) (λb12=>[(0,(.pointer (some ⟨r,0,none⟩))),(1,(.iface V.T V.ov)),(4,ud),(9,(.pointer (some ⟨b9,0,none⟩))),(12,(.pointer (some ⟨b12,0,none⟩))),(13,(.int .i64 ((dU y ((bI s).getD q 0) (s.last[(((bI s).getD q 0)).toNat]'(by omega))).2))),(49,ud),(50,(.int .i64 ((((bI s).length:Nat):Int)))),(51,(.int .i64 (((q:Nat):Int))))]) (λb12=>[ah b12 (ints ((dU y ((bI s).getD q 0) (s.last[(((bI s).getD q 0)).toNat]'(by omega))).1).flat) 39,ah b9 (ints y.flat) 39,own ud ((bI s).length) (ints (bI s)) 3 1,cJ V r s]) (λb12 _=>?_) (λtl33=>?_))));refine ac J33 (ab λ_ J34=>sr λ_ J35=>P2 ?_);refine ao ?_ ?_<;>intro h73
 · exact absurd (Nr hm2 (by rw[fT,dif_pos hm2];exact h59)) h73
 refine nx J35 (CN (qx J34 (ad (LW 0 dV ba aj ?_))));refine SW 1 ba aj ?_;refine ap (ag (ac J29 (ad (AD ?_))));refine PS ?_;refine ap ?_
 exact aI ((q+1,(dU y ((bI s).getD q 0) (s.last[(((bI s).getD q 0)).toNat]'(by omega))).1):(Nat)×(RowT)) ⟨by omega,by rw[uX s (by omega),←hy,if_neg (by rw[fT,dif_pos hm2];exact h59),nK,dif_pos hm2]⟩ (by show(bI s).length- (q+1)< (bI s).length-q;omega)
   SB
   (λ_ s=>ak [1,1,1] rfl s)
 refine DC mixed (BL 0) (cU 2 rfl rfl) ?_;refine LY 0 dV ba aj ?_;refine PD 1 ?_;refine PD 2 ?_;refine PD 3 ?_;refine PD 4 ?_;refine FD 5 1948 de tK ?_;refine IY 6 (1948+((((bI s).getD q 0)).toNat)*174) Ig ba ?_;refine ta 7 rfl (fX (vs:=ints (s.last[(((bI s).getD q 0)).toNat]'(by omega)).flat) rfl dV rfl ba rfl (λ_ h=>h.2.2.1) (aj (s.last[(((bI s).getD q 0)).toNat]'(by omega))) (λa_=>(RepT.sub_last (s.rep a_) (((((bI s).getD q 0)).toNat)*174) (by omega) (by omega) (kJ dB ((s.rep a_).last) (i:=(((bI s).getD q 0)).toNat) 0 (by omega) (by omega) (by decide) (whole (aj (((s.rep a_).last)[(((bI s).getD q 0)).toNat]'(by omega)))))))) ?_;refine cE [8,12] (by kernel_rfl) rfl (aF rfl ?_ ?_);refine CE Mv (pk y ((bI s).getD q 0) (s.last[(((bI s).getD q 0)).toNat]'(by omega))) ID ?_;refine EN (PD 9 ?_);refine PD 10 ?_;refine PD 11 ?_;refine AL 12 ?_;refine XZ uB (ints RowT.zero.flat) λb12=>?_
 refine EN (AL 13 ?_);refine SW 0 ba aj ?_;refine EN (PD 14 ?_);refine DN ?_
 exact aE
   SB
   (λ_ s=>s)
   (tl33 ((b12):(Nat)) trivial)
 refine aF rfl ?_ ?_;refine XZ uB (ints RowT.zero.flat) λb12=>?_
 refine EN (AL 8 ?_);refine CE Mv (pk y ((bI s).getD q 0) (s.last[(((bI s).getD q 0)).toNat]'(by omega))) ID ?_;refine EN (PD 9 ?_);refine PD 10 ?_;refine PD 11 ?_;refine AL 13 ?_;refine SW 0 ba aj ?_;refine EN (PD 14 ?_);refine DN ?_
 exact aE
   SB
   (λ_ s=>s)
   (tl33 ((b12):(Nat)) trivial)
 exact bB;refine nx J27 (ab λ_ J36=>CN (aX (aA (aA (bl (ac J25 (ad ?_)))))));have hoy:OkRow y:=by rw[hy];exact inferInstance
 refine P2 ?_;refine LW 0 dV ba aj ?_;refine CE Ng (rR V r s y 0) (SM [2]) ?_;refine ap (WK [0] (bu rfl ?_));obtain rfl:k=(bI s).length:=by omega
 obtain rfl:q=(bI s).length:=by omega
 have hb:vH s=true:=List.all_eq_true.2 λi hi=>List.all_eq_true.2 λw hw=>by
   obtain⟨j,hj,rfl⟩:=eO hi;have h2:=hal j (by omega) w;rw[List.getD_eq_getElem?_getD,List.getElem?_eq_getElem hj]at h2;exact h2 hw
 rw[dC]at hy;subst hy;exact MQ (by rw[nd,if_neg (by rw[h19,decide_eq_false (by omega)];decide),if_pos hb])
theorem yB{δ:Type}(V:Env δ)(r:Nat)(s:MS δ)[OkR V.toDk s](hrs:s.replies.length≤1000000):
 DT 159 #[(.pointer (some ⟨r,0,none⟩)),(.iface V.T V.ov)] T0 [cJ V r s] (dm (λ_ H=>H=[cJ V r (lX V.toDk s)])):=by
 refine BD 43 Tryz.func159 rfl rfl rfl λw0 F hF=>sr λ_ J1=>P2 ?_
 refine FA 1938 de lc ?_;refine SK 0 lc (λ_=>cT _) ?_ (hc:=by exact λa_=>(QB _ rfl _));refine nx J1 (ab λ_ J2=>e5 (α:=Unit) (λ_u=>True) (λ_u=>[(0,(.pointer (some ⟨r,0,none⟩))),(1,(.iface V.T V.ov))]) (λ_u=>[cJ V r (gP s)]) (λ_u hinv=>?_) (λtl2=>?_));have _:=hinv;refine ac J2 (ab λ_ J3=>e5 (α:=Unit) (λ_u=>True) (λ_u=>[(0,(.pointer (some ⟨r,0,none⟩))),(1,(.iface V.T V.ov))]) (λ_u=>[cJ V r (mo (gP s))]) (λ_u hinv=>?_) (λtl3=>?_));have _:=hinv;refine ac J3 (sr λ_ J4=>P4 ?_);refine FA 9 de ba ?_;refine LZ 0 dV ba aj ((mo (gP s)).own) ?_ (hc:=by exact λ_=>DP _);refine CZ Nb (mS V r (mo (gP s)) ((mo (gP s)).own)) ID λvR=>?_
 refine nx J4 (ad (P2 ?_));refine CZ Li (pa V r (mI V.toDk (mo (gP s)) ((mo (gP s)).own))) ID λvR=>?_
 exact ap (WK [0] (bu rfl rfl));refine sr λ_ J5=>P2 ?_
 refine FA 1940 de aR ?_;refine LG 0 Y3 (.int .i64 ((gP s).waits)) ?_ (hc:=by exact λa_=>(RepT.at_waits _ rfl));refine PS ?_;refine ao ?_ ?_<;>intro h23;refine nx J5 (CY (sr λ_ J6=>P3 ?_));refine FA 1940 de aR ?_;refine LG 0 Y3 (.int .i64 ((gP s).waits)) ?_ (hc:=by exact λa_=>(RepT.at_waits _ rfl));refine CZ ug (eY V r (gP s) ((gP s).waits) 0 0 hrs) ID λvR=>?_
 refine nx J6 (ad (P2 ?_));refine FA 1940 de aR ?_;refine SK 0 aR (λ_=>cT _) ?_ (hc:=by exact λa_=>(RepT.set_waits _ rfl _));refine ap ?_
 exact aE
  SB
  (λ_ q=>by
   rw[yX h23]
   exact ak [0] rfl q)
  (tl3 (():Unit) trivial)
 refine nx J5 (CN (aT ?_))
 exact aE
  SB
  (λ_ q=>by
   rw[yY h23]
   exact ak [0] rfl q)
  (tl3 (():Unit) trivial)
 refine D0 mixed ?_;refine PD 0 ?_;refine PD 1 ?_;refine FD 2 1068 de Ei ?_;refine PD 3 ?_;refine PD 4 ?_;refine FD 5 0 de aR ?_;refine PD 7 ?_;refine PD 8 ?_;refine FD 9 9 de ba ?_;refine cE [6,10] (by kernel_rfl) rfl (aF rfl ?_ ?_);refine LG 0 Y3 (.int .i64 (s.id)) ?_ (hc:=by exact λa_=>(cF _ rfl));refine EN (AL 10 ?_);refine LZ 0 dV ba aj s.own ?_ (hc:=by exact λ_=>DP _);refine EN (AL 11 ?_);refine CE Lk (Leg.Does.hid (λa_=>kZ r 1068 87 _ (gM ((MS.setBusy s false).rep a_)) (MS.setBusy s false).book s.id s.own (Kt inferInstance))) ID ?_;refine EN (DN ?_)
 exact aE
  SB
  (λ_ s=>ak [0] rfl s)
  (tl2 (():Unit) trivial)
 refine aF rfl ?_ ?_;refine LZ 0 dV ba aj s.own ?_ (hc:=by exact λ_=>DP _);refine EN (AL 6 ?_);refine LG 0 Y3 (.int .i64 (s.id)) ?_ (hc:=by exact λa_=>(cF _ rfl));refine EN (AL 11 ?_);refine CE Lk (Leg.Does.hid (λa_=>kZ r 1068 87 _ (gM ((MS.setBusy s false).rep a_)) (MS.setBusy s false).book s.id s.own (Kt inferInstance))) ID ?_;refine EN (DN ?_)
 exact aE
  SB
  (λ_ s=>ak [0] rfl s)
  (tl2 (():Unit) trivial)
 exact bB
theorem wn{δ:Type}(V:Env δ)(r:Nat)(s:MS δ)(from':Int)(m:MsgT)[OkR V.toDk s](hrs:s.replies.length≤1000000):
 DT 122 #[(.pointer (some ⟨r,0,none⟩)),(.iface V.T V.ov),(.int .i64 (from')),(.agg (ints m.flat).toArray)] T0 [cJ V r s] (dm (λ_ H=>H=[cJ V r (dQ V.toDk s from' m)])):=by
 refine BD 64 Tryz.func122 rfl rfl rfl λw0 F hF=>?_
 have hid:cM s.id=true:=OkR.id;have hid2:0≤s.id∧s.id<5:=of_decide_eq_true hid;refine sr λ_ J1=>XY (ints m.flat) λb7=>?_
 refine nx J1 (sr λ_ J2=>P2 ?_);refine FA 0 de aR ?_;refine LG 1 Y3 (.int .i64 (s.id)) ?_ (hc:=by exact λa_=>(cF _ rfl));refine CR Cs (qE s.id hid) ID λvR HR hR=>?_
 obtain⟨_,rfl,rfl⟩:=hR;revert vR;intro uw;refine gT 0 rfl rfl (λhluw _=>hY 0 rfl rfl (by omega) (λgw capw hvw hcapw=>PS ?_));refine nx J2 (ab λ_ J3=>ab λ_ J4=>DC mixed (cU 2 rfl rfl) (BL 1) ?_);refine PD 0 ?_;refine PD 1 ?_;refine FD 2 1938 de lc ?_;refine ta 3 rfl (di (v:=(.bool (s.busy))) rfl Y4 rfl rfl (λ_ h=>h.2.1) (λa_=>(yM _ rfl))) ?_;refine oy ?_ ?_<;>intro h19;refine PD 4 ?_;refine PD 5 ?_;refine FD 6 176 be aR ?_;refine LR 7 Y3 (MsgT.at_version m rfl) ?_;refine PD 8 ?_;refine PD 9 ?_;refine FD 10 9 de ba ?_;refine FD 11 9 dV aR ?_;refine tb 12 rfl (di (v:=(.int .i64 (s.own.version))) rfl Y3 rfl rfl (λ_ h=>h.2.1) (λa_=>(RepT.pt_own (s.rep a_) 0 rfl (by decide) (cy _ rfl)))) ?_;refine PD 13 ?_;refine iT ?_ ?_<;>intro h29;refine PD 14 ?_;refine PD 15 ?_;refine NT 16 ?_;refine NT 17 ?_;refine NT 18 ?_;refine NT 19 ?_;refine PD 20 ?_;refine DN (ac J4 (CY (ai (af (WK [2] (dK rfl ?_))))));have ew:gV s.id=[(s.id+1)%5,(s.id+2)%5]:=by rw[gV,if_pos hid]
 have e:lr s from' m.version=false:=by rw[lr,ew,decide_eq_false h29,gO,ma]
 exact congrArg (λq=>[cJ V r q]) (show s=dQ V.toDk s from' m by rw[dQ,e];rfl);refine PD 14 ?_;refine PD 15 ?_;refine PD 16 ?_;refine PD 17 ?_;refine AL 18 ?_;refine CF Mq (re uw [(s.id+1)%5,(s.id+2)%5] from' (by decide:2≤1000000)) ID (nC (l:=[(s.id+1)%5,(s.id+2)%5]) 0 rfl rfl) ?_;refine ao ?_ ?_<;>intro h34;have hmem:=h34;simp only[bJ,List.not_mem_nil,or_false]at hmem;have hfr:0≤from'∧from'<5:=by omega
 refine EN (PD 19 ?_);refine PD 20 ?_;refine DN (ac J4 (CN (qx J3 (ab λ_ J5=>D0 mixed ?_))));refine PD 0 ?_;refine PD 1 ?_;refine FD 2 1939 de aR ?_;refine PD 4 ?_;refine ta 5 rfl (yO (r:=(da from')) rfl rfl rfl (by omega) rfl) ?_;refine AL 3 ?_;refine LG 2 Y3 (.int .i64 (s.kept)) ?_ (hc:=by exact λa_=>(r9 _ rfl));refine EN (ta 6 rfl (Ks (r:=(iI .i64 s.kept (da from'))) rfl rfl rfl rfl) ?_);refine PD 7 ?_;refine FD 8 1939 de aR ?_;refine AL 9 ?_;refine SK 2 aR (λ_=>cT _) ?_ (hc:=by exact λa_=>(QA _ rfl _));refine EN (DN (ac J5 (ab λ_ J6=>sr λ_ J7=>PS ?_)));refine tp (df rfl iO rfl hluw) ?_;refine PS ?_;refine nx J7 (au (si 2 (sr λ_ J8=>PS ?_)));refine nx J8 (ab λ_ J9=>CY (qx J9 (ab λ_ J10=>au (sr λ_ J11=>tp (bd (r:=0) hvw rfl iO aR rfl rfl (by omega) (by omega) rfl) ?_))));refine tp (ca (v:=(.int .i64 (((s.id+1)%5)))) rfl Y3 rfl rfl (fD 0 rfl hvw rfl) rfl) ?_;refine PS ?_;refine nx J11 (sr λ_ J12=>P2 ?_);refine FA 1939 de aR ?_;refine LG 2 Y3 (.int .i64 ((iI .i64 s.kept (da from')))) ?_ (hc:=by exact λa_=>(r9 _ rfl));refine PS ?_;refine tp (j5 (r:=((iI .i64 s.kept (da from')).fdiv (2^min (((s.id+1)%5)).toNat IntKind.i64.bits))) rfl rfl rfl (by omega) rfl) ?_;refine tp (pG (r:=(((iI .i64 s.kept (da from')).fdiv (2^min (((s.id+1)%5)).toNat IntKind.i64.bits))%2)) rfl rfl rfl (mask (k:=1) (by decide) _)) ?_;refine PS ?_;refine ao ?_ ?_<;>intro h59
 refine nx J12 (CY (ai (aH (af (af (aH (af (WK [2] (dK rfl ?_)))))))));have ew:gV s.id=[(s.id+1)%5,(s.id+2)%5]:=by rw[gV,if_pos hid]
 have e:lr s from' m.version=true:=by rw[lr,h19,ew,decide_eq_true (show m.version=s.own.version by omega),decide_eq_true h34];rfl
 have e2:xz (iN s from')=false:=by rw[xz,show gV (iN s from').id=[(s.id+1)%5,(s.id+2)%5]from ew];simp only[List.all_cons,List.all_nil,Bk,iN, *,decide_true,decide_false,QF,Pu,QG,vG,gO,ma]
 exact congrArg (λq=>[cJ V r q]) (show(MS.setKept s (iI .i64 s.kept (da from')))=dQ V.toDk s from' m by rw[dQ,e,e2];rfl);refine nx J12 (CN (aT (ag (ac J10 (ad (tp (cr (r:=1) rfl rfl rfl (by decide)) ?_))))));refine PS ?_;refine ap (en (sr λ_ J13=>PS ?_));refine nx J13 (ab λ_ J14=>CY (qx J14 (ab λ_ J15=>au (sr λ_ J16=>tp (bd (r:=1) hvw rfl iO aR rfl rfl (by omega) (by omega) rfl) ?_))));refine tp (ca (v:=(.int .i64 (((s.id+2)%5)))) rfl Y3 rfl rfl (fD 0 rfl hvw rfl) rfl) ?_;refine PS ?_;refine nx J16 (sr λ_ J17=>P2 ?_);refine FA 1939 de aR ?_;refine LG 2 Y3 (.int .i64 ((iI .i64 s.kept (da from')))) ?_ (hc:=by exact λa_=>(r9 _ rfl));refine PS ?_;refine tp (j5 (r:=((iI .i64 s.kept (da from')).fdiv (2^min (((s.id+2)%5)).toNat IntKind.i64.bits))) rfl rfl rfl (by omega) rfl) ?_;refine tp (pG (r:=(((iI .i64 s.kept (da from')).fdiv (2^min (((s.id+2)%5)).toNat IntKind.i64.bits))%2)) rfl rfl rfl (mask (k:=1) (by decide) _)) ?_;refine PS ?_;refine ao ?_ ?_<;>intro h59;refine nx J17 (CY (ai (aH (af (af (aH (af (WK [2] (dK rfl ?_)))))))));have ew:gV s.id=[(s.id+1)%5,(s.id+2)%5]:=by rw[gV,if_pos hid]
 have e:lr s from' m.version=true:=by rw[lr,h19,ew,decide_eq_true (show m.version=s.own.version by omega),decide_eq_true h34];rfl
 have e2:xz (iN s from')=false:=by rw[xz,show gV (iN s from').id=[(s.id+1)%5,(s.id+2)%5]from ew];simp only[List.all_cons,List.all_nil,Bk,iN, *,decide_true,decide_false,QF,Pu,QG,vG,gO,ma]
 exact congrArg (λq=>[cJ V r q]) (show(MS.setKept s (iI .i64 s.kept (da from')))=dQ V.toDk s from' m by rw[dQ,e,e2];rfl);refine nx J17 (CN (aT (ag (ac J15 (ad (tp (cr (r:=2) rfl rfl rfl (by decide)) ?_))))));refine PS ?_;refine ap (en (sr λ_ J18=>PS ?_));refine nx J18 (ab λ_ J19=>CN (aX (aA (aA (bl (ac J6 (ad (P2 ?_))))))));refine CZ OG (yB V r (iN s from') hrs) (SM [2]) λvR=>?_
 refine ap (WK [0] (bu rfl ?_));have ew:gV s.id=[(s.id+1)%5,(s.id+2)%5]:=by rw[gV,if_pos hid]
 have e:lr s from' m.version=true:=by rw[lr,h19,ew,decide_eq_true (show m.version=s.own.version by omega),decide_eq_true h34];rfl
 have e2:xz (iN s from')=true:=by rw[xz,show gV (iN s from').id=[(s.id+1)%5,(s.id+2)%5]from ew];simp only[List.all_cons,List.all_nil,Bk,iN, *,decide_true,decide_false,QF,Pu,QG,vG,gO,ma]
 exact congrArg (λq=>[cJ V r q]) (show(lX V.toDk (iN s from'))=dQ V.toDk s from' m by rw[dQ,e,e2];rfl);refine EN (PD 19 ?_);refine PD 20 ?_;refine DN (ac J4 (CY (ai (af (WK [2] (dK rfl ?_))))));have ew:gV s.id=[(s.id+1)%5,(s.id+2)%5]:=by rw[gV,if_pos hid]
 have e:lr s from' m.version=false:=by rw[lr,ew,decide_eq_false h34];simp
 exact congrArg (λq=>[cJ V r q]) (show s=dQ V.toDk s from' m by rw[dQ,e];rfl);refine PD 4 ?_;refine PD 5 ?_;refine NT 6 ?_;refine NT 7 ?_;refine NT 8 ?_;refine NT 9 ?_;refine NT 10 ?_;refine NT 11 ?_;refine NT 12 ?_;refine NT 13 ?_;refine PD 14 ?_;refine PD 15 ?_;refine NT 16 ?_;refine NT 17 ?_;refine NT 18 ?_;refine NT 19 ?_;refine PD 20 ?_;refine DN (ac J4 (CY (ai (af (WK [2] (dK rfl ?_))))));have ew:gV s.id=[(s.id+1)%5,(s.id+2)%5]:=by rw[gV,if_pos hid]
 have e:lr s from' m.version=false:=by rw[lr,ew,h19];simp
 exact congrArg (λq=>[cJ V r q]) (show s=dQ V.toDk s from' m by rw[dQ,e];rfl)
theorem yh{δ:Type}(V:Env δ)(r:Nat)(s:MS δ)(from':Int)(m:MsgT)[OkR V.toDk s][OkMg m](hto:from'≠s.id):
 DT 121 #[(.pointer (some ⟨r,0,none⟩)),(.iface V.T V.ov),(.int .i64 (from')),(.agg (ints m.flat).toArray)] T0 [cJ V r s] (dm (λ_ H=>H=[cJ V r (ja V.toDk s from' m)])):=by
 refine BD 56 Tryz.func121 rfl rfl rfl λw0 F hF=>sr λ_ J1=>XY (ints m.flat) λb7=>?_
 refine nx J1 (ab λ_ J2=>ab λ_ J3=>D1 0 mixed ?_);refine FD 0 1 be aR ?_;refine LR 1 Y3 (cn m rfl) ?_;refine PD 2 ?_;refine PD 3 ?_;refine iT ?_ ?_<;>intro h11;refine PD 4 ?_;refine NT 5 ?_;refine NT 6 ?_;refine NT 7 ?_;refine NT 8 ?_;refine NT 9 ?_;refine NT 10 ?_;refine PD 11 ?_;refine DN (ac J3 (CY (ai (af (WK [1] (dK rfl ?_))))));exact congrArg (λq=>[cJ V r q]) (show _=ja V.toDk s from' m from(if_pos (.inl (by omega))).symm);refine PD 4 ?_;refine PD 5 ?_;refine PD 6 ?_;refine FD 7 183 de tJ ?_;refine FD 8 1 be aR ?_;refine LR 9 Y3 (cn m rfl) ?_;refine AL 10 ?_;refine CE Nk (Leg.Does.hid (λa_=>m7 r 183 87 _ (dY (s.rep a_)) s.mirror m.whose)) (SM [1]) ?_;refine bc ?_ ?_<;>intro h18;refine EN (PD 11 ?_);refine DN (ac J3 (CY (ai (af (WK [0] (dK rfl ?_))))));exact congrArg (λq=>[cJ V r q]) (show _=ja V.toDk s from' m from(if_pos (.inr h18)).symm);refine EN (PD 11 ?_);refine DN (ac J3 (CN (qx J2 (ab λ_ J4=>ab λ_ J5=>D1 1 mixed ?_))));refine PD 0 ?_;refine PD 1 ?_;refine FD 2 183 de tJ ?_;refine FD 3 1 be aR ?_;refine LR 4 Y3 (cn m rfl) ?_;refine FD 5 2 be ba ?_;refine ta 6 rfl (aN (vs:=ints m.row.flat) rfl dV rfl ba rfl (λ_ h=>h.2.1) (aj m.row) (mm m 0 rfl (by decide) (whole (aj m.row)))) ?_;refine AL 7 ?_;refine CE Ms (Leg.Does.hid (λa_=>q7 r 183 87 _ (dY (s.rep a_)) s.mirror m.whose m.row (Kt inferInstance))) ID ?_;refine bc ?_ ?_<;>intro h27;refine EN (DN (ac J5 (CY (ab λ_ J6=>sr λ_ J7=>PS ?_))))
 refine FA 1 be aR ?_;refine LU 1 Y3 (cn m rfl) ?_;refine FA 2 be ba ?_;refine LV 1 dV ba aj MsgT.sp_row (y:=m.row) ?_;refine tp (lv RecT.zero (RecT.mk 1 m.whose m.row 0 BallotT.zero ChangeT.zero ViewT.zero) [(0,[Value.int .i64 1]),(1,[Value.int .i64 m.whose]),(2,ints m.row.flat)] ef e6 (g:=RecT.sg)) ?_;refine CE xa (lp V r s (ki m.whose m.row)) ID ?_;refine PS ?_;refine ao ?_ ?_<;>intro h35;refine nx J7 (CY (ai (af (af (WK [0] (dK rfl ?_))))));have hn: ¬(m.whose≠from'∨fe s.mirror m.whose=true):=λh=>h.elim (λh=>by omega) (λh=>by rw[h18]at h;cases h)
 exact MQ (by rw[ja,if_neg hn,if_pos h27,if_pos h35]<;>rfl);refine nx J7 (CN (qx J6 (D1 1 mixed ?_)));refine PD 0 ?_;refine PD 1 ?_;refine FD 2 183 de tJ ?_;refine FD 3 1 be aR ?_;refine LR 4 Y3 (cn m rfl) ?_;refine FD 5 2 be ba ?_;refine ta 6 rfl (aN (vs:=ints m.row.flat) rfl dV rfl ba rfl (λ_ h=>h.2.1) (aj m.row) (mm m 0 rfl (by decide) (whole (aj m.row)))) ?_;refine AL 7 ?_;refine CE MB (Leg.Does.hid (λa_=>sX r 183 87 _ (dY ((ej V.toDk s (ki m.whose m.row)).rep a_)) (ej V.toDk s (ki m.whose m.row)).mirror m.whose m.row (Kt inferInstance))) ID ?_;refine EN (DN (ac J4 (D1 1 mixed ?_)));refine PD 0 ?_;refine PD 1 ?_;refine PD 2 ?_;refine PD 3 ?_;refine PD 4 ?_;refine FD 5 183 de tJ ?_;refine FD 6 1 be aR ?_;refine LR 7 Y3 (cn m rfl) ?_;refine AL 8 ?_;refine CE Ji (Leg.Does.hid (λa_=>lS r 183 87 _ (dY ((iM (ej V.toDk s (ki m.whose m.row)) m.whose m.row).rep a_)) (iM (ej V.toDk s (ki m.whose m.row)) m.whose m.row).mirror m.whose)) ID ?_;refine EN (ta 9 rfl (QN (cs:=ints (dr (iM (ej V.toDk s (ki m.whose m.row)) m.whose m.row).mirror m.whose).flat) (v:=Value.int .i64 ((dr (iM (ej V.toDk s (ki m.whose m.row)) m.whose m.row).mirror m.whose).version)) rfl dV rfl Y3 rfl rfl (cy _ rfl)) ?_)
 refine ta 10 rfl (lv MsgT.zero (MsgT.mk 1 0 RowT.zero ((dr (iM (ej V.toDk s (ki m.whose m.row)) m.whose m.row).mirror m.whose).version) 0 BallotT.zero BallotT.zero ChangeT.zero ViewT.zero) [(0,[Value.int .i64 1]),(3,[Value.int .i64 ((dr (iM (ej V.toDk s (ki m.whose m.row)) m.whose m.row).mirror m.whose).version)])] be bv (g:=MsgT.sg)) ?_;refine AL 11 ?_;refine CZ jh (jw V r (iM (ej V.toDk s (ki m.whose m.row)) m.whose m.row) from' (s5 (dr (iM (ej V.toDk s (ki m.whose m.row)) m.whose m.row).mirror m.whose).version) hto) ID λvR=>?_
 refine EN (DN (WK [0] (bu rfl ?_)));have hn: ¬(m.whose≠from'∨fe s.mirror m.whose=true):=λh=>h.elim (λh=>by omega) (λh=>by rw[h18]at h;cases h)
 exact MQ (by rw[ja,if_neg hn,if_pos h27,if_neg h35]<;>rfl);refine EN (DN (ac J5 (CN (qx J4 (D1 1 mixed ?_)))));refine PD 0 ?_;refine PD 1 ?_;refine PD 2 ?_;refine PD 3 ?_;refine PD 4 ?_;refine FD 5 183 de tJ ?_;refine FD 6 1 be aR ?_;refine LR 7 Y3 (cn m rfl) ?_;refine AL 8 ?_;refine CE Ji (Leg.Does.hid (λa_=>lS r 183 87 _ (dY (s.rep a_)) s.mirror m.whose)) ID ?_;refine EN (ta 9 rfl (QN (cs:=ints (dr s.mirror m.whose).flat) (v:=Value.int .i64 ((dr s.mirror m.whose).version)) rfl dV rfl Y3 rfl rfl (cy _ rfl)) ?_);refine ta 10 rfl (lv MsgT.zero (MsgT.mk 1 0 RowT.zero ((dr s.mirror m.whose).version) 0 BallotT.zero BallotT.zero ChangeT.zero ViewT.zero) [(0,[Value.int .i64 1]),(3,[Value.int .i64 ((dr s.mirror m.whose).version)])] be bv (g:=MsgT.sg)) ?_;refine AL 11 ?_;refine CZ jh (jw V r s from' (s5 (dr s.mirror m.whose).version) hto) ID λvR=>?_
 refine EN (DN (WK [0] (bu rfl ?_)));have hn: ¬(m.whose≠from'∨fe s.mirror m.whose=true):=λh=>h.elim (λh=>by omega) (λh=>by rw[h18]at h;cases h)
 exact MQ (by rw[ja,if_neg hn,if_neg (by rw[h27];decide)]<;>rfl)
theorem nX{δ:Type}(V:Env δ)(r:Nat)(s:MS δ)(from':Int)(m:MsgT)[OkR V.toDk s][OkMg m]:
 DT 125 #[(.pointer (some ⟨r,0,none⟩)),(.iface V.T V.ov),(.int .i64 (from')),(.agg (ints m.flat).toArray)] T0 [cJ V r s] (dm (λ_ H=>H=[cJ V r (gd V.toDk s from' m)])):=by
 refine BD 59 Tryz.func125 rfl rfl rfl λw0 F hF=>sr λ_ J1=>XY (ints m.flat) λb7=>?_
 refine nx J1 (ab λ_ J2=>e5 (α:=Unit) (λ_u=>True) (λ_u=>[(0,(.pointer (some ⟨r,0,none⟩))),(1,(.iface V.T V.ov))]) (λ_u=>[cJ V r (if from'∈gV m.whose then wi s from' m.whose m.row else s)]) (λ_u hinv=>?_) (λtl2=>?_));have _:=hinv;refine ac J2 (ad (P2 ?_));refine CZ Li (pa V r (if from'∈gV m.whose then wi s from' m.whose m.row else s)) ID λvR=>?_
 exact ap (WK [0] (bu rfl rfl));refine sr λ_ J3=>FA 1 be aR ?_
 refine LU 0 Y3 (cn m rfl) ?_;refine CR Cs (pP m.whose) ID λvR HR hR=>?_
 obtain⟨_,rfl,rfl⟩:=hR;revert vR;intro uw;refine PS ?_;refine CF Mq (re uw (gV m.whose) from' (Iv m.whose)) ID (nC (l:=(gV m.whose)) 0 rfl rfl) ?_;refine ao ?_ ?_<;>intro h12
 have hm:cM m.whose=true:=by
  unfold gV at h12;split at h12
  · assumption
  · cases h12
 have hm2:0≤m.whose∧m.whose<5:=of_decide_eq_true hm;have hta:rr s m.whose=s.told[m.whose.toNat]'(by omega):=by rw[rr,dif_pos hm]
 have hla:nK s m.whose=s.last[m.whose.toNat]'(by omega):=by rw[nK,dif_pos hm]
 have hf:0≤from'∧from'<5:=by
  rw[gV,if_pos hm]at h12;simp only[bJ,List.not_mem_nil,or_false]at h12;omega
 refine nx J3 (CY (ab λ_ J4=>e5 (α:=Unit) (λ_u=>True) (λ_u=>[(0,(.pointer (some ⟨r,0,none⟩))),(1,(.iface V.T V.ov)),(2,(.int .i64 (from'))),(7,(.pointer (some ⟨b7,0,none⟩)))]) (λ_u=>[cJ V r (lV s m.whose m.row),ah b7 (ints m.flat) 163]) (λ_u hinv=>?_) (λtl4=>?_)));have _:=hinv;refine ac J4 (D1 1 mixed ?_);refine PD 0 ?_;refine FD 1 1 be aR ?_;refine LR 2 Y3 (cn m rfl) ?_;refine PD 3 ?_;refine FD 4 1943 de eW ?_;refine IY 5 (1943+(m.whose).toNat) jO aR ?_;refine PD 7 ?_;refine ta 8 rfl (yO (r:=(da from')) rfl rfl rfl (by omega) rfl) ?_;refine PD 10 ?_;refine FD 11 1943 de eW ?_;refine AL 6 ?_;refine LG 0 Y3 (.int .i64 ((((lV s m.whose m.row).told)[(m.whose).toNat]'(by omega)))) ?_ (hc:=by exact λa_=>(QX ((lV s m.whose m.row).rep a_) ((m.whose).toNat) (by omega) (by omega) (kq (((lV s m.whose m.row).rep a_).told) (by omega))));refine EN (ta 9 rfl (Ks (r:=(iI .i64 (s.told[m.whose.toNat]'(by omega)) (da from'))) rfl rfl rfl rfl) ?_);refine IY 12 (1943+(m.whose).toNat) jO aR ?_;refine AL 13 ?_;refine SK 0 aR (λ_=>cT _) ?_ (hc:=by exact λa_=>(RepT.st_told ((lV s m.whose m.row).rep a_) ((m.whose).toNat) (by omega) (by omega) (y1 (((lV s m.whose m.row).rep a_).told) (by omega) _)));refine EN (DN ?_)
 exact aE
  SB
  (λ_ q=>by
   rw[if_pos h12,show wi s from' m.whose m.row= {lV s m.whose m.row with told:=s.told.set m.whose.toNat (iI .i64 (s.told[m.whose.toNat]'(by omega)) (da from')) (by omega)}by rw[wi,B6,dif_pos hm,hta]]
   exact ak [0] rfl q)
  (tl2 (():Unit) trivial)
 refine ab λ_ J5=>DC mixed (BL 1) (cU 2 rfl rfl) ?_
 refine PD 0 ?_;refine FD 1 1 be aR ?_;refine LR 2 Y3 (cn m rfl) ?_;refine PD 3 ?_;refine FD 4 1943 de eW ?_;refine IY 5 (1943+(m.whose).toNat) jO aR ?_;refine ta 6 rfl (di (v:=(.int .i64 ((s.told[(m.whose).toNat]'(by omega))))) rfl Y3 rfl rfl (λ_ h=>h.2.2.1) (λa_=>(QX (s.rep a_) ((m.whose).toNat) (by omega) (by omega) (kq ((s.rep a_).told) (by omega))))) ?_;refine PD 7 ?_;refine iT ?_ ?_<;>intro h20;refine PD 8 ?_;refine NT 9 ?_;refine NT 10 ?_;refine NT 11 ?_;refine NT 12 ?_;refine NT 13 ?_;refine NT 14 ?_;refine NT 15 ?_;refine NT 16 ?_;refine NT 17 ?_;refine NT 18 ?_;refine NT 19 ?_;refine NT 20 ?_;refine PD 21 ?_;refine DN (ac J5 (CY (D1 1 mixed ?_)));refine PD 0 ?_;refine FD 1 1 be aR ?_;refine LR 2 Y3 (cn m rfl) ?_;refine FD 3 2 be ba ?_;refine ta 4 rfl (aN (vs:=ints m.row.flat) rfl dV rfl ba rfl (λ_ h=>h.2.1) (aj m.row) (mm m 0 rfl (by decide) (whole (aj m.row)))) ?_;refine PD 5 ?_;refine FD 6 1948 de tK ?_;refine IY 7 (1948+((m.whose).toNat)*174) Ig ba ?_;refine AL 8 ?_;refine gS (vs:=ints m.row.flat) (i:=2) (aa rfl) rfl rfl rfl rfl rfl (by rw[(aj m.row)];exact ba) (bk _) rfl rfl (λ_=>LC (cT _) (aj _)) (λa_=>(RepT.wr_last_ (s.rep a_) (((m.whose).toNat)*174) (by omega) (by have h1:=(aj m.row);omega) (uC dB ((s.rep a_).last) (i:=(m.whose).toNat) 0 (by omega) (by omega) (by have h1:=(aj m.row);omega) (ct ((aj (((s.rep a_).last)[(m.whose).toNat]'(by omega))).trans (aj m.row).symm))))) (EN (DN ?_))
 exact aE
  SB
  (λ_ q=>by
   rw[show lV s m.whose m.row= {s with last:=s.last.set m.whose.toNat m.row (by omega)}by rw[lV,if_pos (.inl (hta.trans h20)),B6,dif_pos hm]]
   exact ak [2,1] rfl q)
  (tl4 (():Unit) trivial)
 refine PD 8 ?_;refine FD 9 2 be ba ?_;refine FD 10 2 dV aR ?_;refine LX 11 Y3 (.int .i64 (m.row.version)) ?_ (hc:=by exact MsgT.pt_row m 0 rfl (by decide) (cy m.row rfl));refine PD 12 ?_;refine FD 13 1 be aR ?_;refine LR 14 Y3 (cn m rfl) ?_;refine PD 15 ?_;refine FD 16 1948 de tK ?_;refine IY 17 (1948+((m.whose).toNat)*174) Ig ba ?_;refine tb 18 rfl (aZ (r:=1948+((m.whose).toNat)*174) rfl dV rfl aR rfl rfl) ?_;refine tb 19 rfl (di (v:=(.int .i64 ((s.last[(m.whose).toNat]'(by omega)).version))) rfl Y3 rfl rfl (λ_ h=>h.2.2.1) (λa_=>(RepT.pt_last (s.rep a_) (((m.whose).toNat)*174) (by omega) (by omega) (nU dB ((s.rep a_).last) (i:=(m.whose).toNat) 0 (by omega) (by omega) (by decide) (cy _ rfl))))) ?_;refine PD 20 ?_;refine iT ?_ ?_<;>intro h33;refine PD 21 ?_;refine DN (ac J5 (CY (D1 1 mixed ?_)));refine PD 0 ?_;refine FD 1 1 be aR ?_;refine LR 2 Y3 (cn m rfl) ?_;refine FD 3 2 be ba ?_;refine ta 4 rfl (aN (vs:=ints m.row.flat) rfl dV rfl ba rfl (λ_ h=>h.2.1) (aj m.row) (mm m 0 rfl (by decide) (whole (aj m.row)))) ?_;refine PD 5 ?_;refine FD 6 1948 de tK ?_;refine IY 7 (1948+((m.whose).toNat)*174) Ig ba ?_;refine AL 8 ?_
 refine gS (vs:=ints m.row.flat) (i:=2) (aa rfl) rfl rfl rfl rfl rfl (by rw[(aj m.row)];exact ba) (bk _) rfl rfl (λ_=>LC (cT _) (aj _)) (λa_=>(RepT.wr_last_ (s.rep a_) (((m.whose).toNat)*174) (by omega) (by have h1:=(aj m.row);omega) (uC dB ((s.rep a_).last) (i:=(m.whose).toNat) 0 (by omega) (by omega) (by have h1:=(aj m.row);omega) (ct ((aj (((s.rep a_).last)[(m.whose).toNat]'(by omega))).trans (aj m.row).symm))))) (EN (DN ?_))
 exact aE
  SB
  (λ_ q=>by
   rw[show lV s m.whose m.row= {s with last:=s.last.set m.whose.toNat m.row (by omega)}by rw[lV,if_pos (.inr (by rw[hla];omega)),B6,dif_pos hm]]
   exact ak [2,1] rfl q)
  (tl4 (():Unit) trivial)
 refine PD 21 ?_;refine DN (ac J5 (CN (aT ?_)))
 exact aE
  SB
  (λ_ q=>by
   rw[show lV s m.whose m.row= {s with last:=s.last}by rw[lV,if_neg (by rw[hta,hla];omega)]]
   exact ak [2,1] rfl q)
  (tl4 (():Unit) trivial)
 refine nx J3 (CN (aT ?_))
 exact aE
  SB
  (λ_ q=>by
   rw[if_neg h12]
   exact ak [2] rfl q)
  (tl2 (():Unit) trivial)
abbrev TK{δ:Type}(V:Env δ)(r f:Nat)(s:MS δ)(from':Int)(m:MsgT)(s':MS δ):Prop:=Leg.Does Tryz.prog f #[.pointer (some ⟨r,0,none⟩), .iface V.T V.ov, .int .i64 from', .agg (ints m.flat).toArray] (λ_=>True) [cJ V r s] (dm (λ_ H=>H=[cJ V r s']))
theorem oL{δ:Type}(V:Env δ)(r:Nat)(s s':MS δ)(from':Int)(m:MsgT)[OkMg m](h0:m.kind=0→TK V r 121 s from' m s')(h1:m.kind=1→TK V r 122 s from' m s')(h2:m.kind=2→Gp s m.whose m.row=s')(h7:m.kind=7→DT 123 #[.pointer (some ⟨r,0,none⟩), .iface V.T V.ov, .agg (ints m.view.flat).toArray] T0 [cJ V r s] (dm (λv H=>(∃b,v= .bool b)∧H=[cJ V r s'])))(h8:m.kind=8→TK V r 124 s from' m s')(h9:m.kind=9→TK V r 125 s from' m s')(hv:m.kind=3∨m.kind=4∨m.kind=5∨m.kind=6→TK V r 126 s from' m s')(hn:m.kind≠0∧m.kind≠1∧m.kind≠2∧m.kind≠7∧m.kind≠8∧m.kind≠9∧m.kind≠3∧m.kind≠4∧m.kind≠5∧m.kind≠6→s=s'):
 DT 82 #[(.pointer (some ⟨r,0,none⟩)),(.iface V.T V.ov),(.int .i64 (from')),(.agg (ints m.flat).toArray)] T0 [cJ V r s] (dm (λ_ H=>H=[cJ V r s'])):=by
 refine BD 65 Tryz.func82 rfl rfl rfl λw0 F hF=>sr λ_ J1=>XY (ints m.flat) λb7=>?_
 refine nx J1 (sr λ_ J2=>FA 0 be aR ?_);refine LU 0 Y3 (eT m rfl) ?_;refine nx J2 (au (sr λ_ J3=>PS ?_));refine ao ?_ ?_<;>intro h11;refine PS ?_;refine nx J3 (CY (ad (P3 ?_)));refine LW 0 be cd aG ?_;refine CZ OS ((h0 h11)) (SM [1]) λvR=>?_
 exact ap (ag (WK [0] (bu rfl rfl)));refine PS ?_;refine nx J3 (CN (sr λ_ J4=>PS ?_));refine ao ?_ ?_<;>intro h18;refine PS ?_;refine nx J4 (CY (ad (P3 ?_)));refine LW 0 be cd aG ?_;refine CZ OR ((h1 h18)) (SM [1]) λvR=>?_
 exact ap (ag (WK [0] (bu rfl rfl)));refine PS ?_;refine nx J4 (CN (sr λ_ J5=>PS ?_));refine ao ?_ ?_<;>intro h25;refine PS ?_;refine nx J5 (CY (D1 0 mixed ?_));refine PD 0 ?_;refine PD 1 ?_;refine FD 2 1068 de Ei ?_;refine FD 3 1 be aR ?_;refine LR 4 Y3 (cn m rfl) ?_;refine FD 5 2 be ba ?_;refine ta 6 rfl (aN (vs:=ints m.row.flat) rfl dV rfl ba rfl (λ_ h=>h.2.1) (aj m.row) (mm m 0 rfl (by decide) (whole (aj m.row)))) ?_;refine AL 7 ?_;refine CE Lk (Leg.Does.hid (λa_=>kZ r 1068 87 _ (gM (s.rep a_)) s.book m.whose m.row (Kt inferInstance))) (SM [1]) ?_;refine EN (DN (ag (WK [0] (bu rfl ?_))));exact congrArg (λq=>[cJ V r q]) (h2 h25);refine PS ?_;refine nx J5 (CN (sr λ_ J6=>PS ?_));refine ao ?_ ?_<;>intro h35;refine PS ?_;refine nx J6 (CY (ad (P2 ?_)));refine FA 185 be bg ?_;refine LV 0 eH bg an MsgT.sp_view (y:=m.view) ?_;refine CR Ju ((h7 h35)) (SM [1]) λvR HR hR=>?_
 obtain⟨_,rfl⟩:=hR;exact ap (ag (WK [0] (bu rfl rfl)));refine PS ?_;refine nx J6 (CN (sr λ_ J7=>PS ?_));refine ao ?_ ?_<;>intro h42;refine PS ?_;refine nx J7 (CY (ad (P3 ?_)));refine LW 0 be cd aG ?_;refine CZ OQ ((h8 h42)) (SM [1]) λvR=>?_
 exact ap (ag (WK [0] (bu rfl rfl)));refine PS ?_;refine nx J7 (CN (sr λ_ J8=>PS ?_));refine ao ?_ ?_<;>intro h49;refine PS ?_;refine nx J8 (CY (ad (P3 ?_)));refine LW 0 be cd aG ?_;refine CZ OP ((h9 h49)) (SM [1]) λvR=>?_
 exact ap (ag (WK [0] (bu rfl rfl)));refine PS ?_;refine nx J8 (CN (ab λ_ J9=>sr λ_ J10=>P2 ?_));refine ao ?_ ?_<;>intro h55;refine nx J10 (CY (qx J9 (CY (ad (P3 ?_)))));refine LW 0 be cd aG ?_;refine CZ F6 ((hv (by omega))) (SM [1]) λvR=>?_
 exact ap (ag (WK [0] (bu rfl rfl)));refine nx J10 (CN (sr λ_ J11=>P2 ?_));refine ao ?_ ?_<;>intro h55;refine nx J11 (CY (qx J9 (CY (ad (P3 ?_)))));refine LW 0 be cd aG ?_;refine CZ F6 ((hv (by omega))) (SM [1]) λvR=>?_
 exact ap (ag (WK [0] (bu rfl rfl)));refine nx J11 (CN (sr λ_ J12=>P2 ?_));refine ao ?_ ?_<;>intro h55;refine nx J12 (CY (qx J9 (CY (ad (P3 ?_)))));refine LW 0 be cd aG ?_;refine CZ F6 ((hv (by omega))) (SM [1]) λvR=>?_
 exact ap (ag (WK [0] (bu rfl rfl)));refine nx J12 (CN (ad (PS ?_)));refine ao ?_ ?_<;>intro h59;refine PS ?_;refine nx J9 (CY (ad (P3 ?_)));refine LW 0 be cd aG ?_;refine CZ F6 ((hv (by omega))) (SM [1]) λvR=>?_
 exact ap (ag (WK [0] (bu rfl rfl)));refine PS ?_;refine nx J9 (CN (aT (ag (WK [1] (bu rfl ?_)))));exact congrArg (λq=>[cJ V r q]) (hn ⟨h11,h18,h25,h35,h42,h49,by omega,by omega,by omega,by omega⟩)
theorem Eg{δ:Type}{V:Env δ}{r:Nat}{s s':MS δ}{from':Int}{m:MsgT}[OkMg m](hk:m.kind=9)(h:TK V r 125 s from' m s'):TK V r 82 s from' m s':=oL V r s s' from' m (λe=>by omega) (λe=>by omega) (λe=>by omega) (λe=>by omega) (λe=>by omega) (λ_=>h) (λe=>by omega) (λe=>by omega)
theorem Eh{δ:Type}{V:Env δ}{r:Nat}{s s':MS δ}{from':Int}{m:MsgT}[OkMg m](hk:m.kind=8)(h:TK V r 124 s from' m s'):TK V r 82 s from' m s':=oL V r s s' from' m (λe=>by omega) (λe=>by omega) (λe=>by omega) (λe=>by omega) (λ_=>h) (λe=>by omega) (λe=>by omega) (λe=>by omega)
theorem oK{δ:Type}{V:Env δ}{r:Nat}{s s':MS δ}{from':Int}{m:MsgT}[OkMg m](hk:m.kind=3∨m.kind=4∨m.kind=5∨m.kind=6)(h:TK V r 126 s from' m s'):TK V r 82 s from' m s':=oL V r s s' from' m (λe=>by omega) (λe=>by omega) (λe=>by omega) (λe=>by omega) (λe=>by omega) (λe=>by omega) (λ_=>h) (λe=>by omega)
theorem wE{δ:Type}(V:Env δ)(r:Nat)(s:MS δ)(w:Int)(y:RowT)[OkR V.toDk s][OkRow y]:TK V r 82 s s.id (g9 w y) (gd V.toDk s s.id (g9 w y)):=Eg rfl (nX V r s s.id (g9 w y))
theorem pX{δ:Type}(V:Env δ)(r:Nat)(s:MS δ)(s':MS δ)(from':Int)(m:MsgT)[OkR V.toDk s'][OkMg m](hl:DT 123 #[.pointer (some ⟨r,0,none⟩), .iface V.T V.ov, .agg (ints m.view.flat).toArray] T0 [cJ V r s] (dm (λv H=>(∃b,v= .bool b)∧H=[cJ V r s']))):
 DT 124 #[(.pointer (some ⟨r,0,none⟩)),(.iface V.T V.ov),(.int .i64 (from')),(.agg (ints m.flat).toArray)] T0 [cJ V r s] (dm (λ_ H=>H=[cJ V r (fz V.toDk s' from' m.whose)])):=by
 refine BD 64 Tryz.func124 rfl rfl rfl λw0 F hF=>sr λ_ J1=>XY (ints m.flat) λb7=>?_
 refine nx J1 (sr λ_ J2=>P2 ?_);refine FA 185 be bg ?_;refine LV 0 eH bg an MsgT.sp_view (y:=m.view) ?_;refine CR Ju (hl) (SM [1]) λvR HR hR=>?_
 obtain⟨_,rfl⟩:=hR;refine nx J2 (ab λ_ J3=>ab λ_ J4=>DC mixed (cU 0 rfl rfl) (BL 1) ?_);refine PD 0 ?_;refine PD 1 ?_;refine FD 2 2 de bg ?_;refine ta 3 rfl (fX (vs:=ints s'.view.flat) rfl eH rfl bg rfl (λ_ h=>h.2.1) (an s'.view) (λa_=>(fU (s'.rep a_) 0 rfl (by decide) (whole (an ((s'.rep a_).view)))))) ?_;refine FD 4 1 be aR ?_;refine LR 5 Y3 (cn m rfl) ?_;refine AL 6 ?_;refine CE Lj (qP s'.view m.whose OkVw.rng) ID ?_;refine EN (PD 7 ?_);refine PD 8 ?_;refine PD 9 ?_;refine oy ?_ ?_<;>intro h24;refine PD 10 ?_;refine PD 11 ?_;refine DN (ac J4 (sr λ_ J5=>PS ?_));refine PS ?_;refine P4 ?_;refine ao ?_ ?_<;>intro h30;refine PS ?_;refine nx J5 (CY (ai (af (WK [0] (dK rfl ?_)))));exact MQ (by rw[fz,if_pos (λh=>h30 (by rw[h];rfl))]);refine PS ?_;refine nx J5 (CN (qx J3 (ab λ_ J6=>ab λ_ J7=>D1 1 mixed ?_)));refine PD 0 ?_;refine PD 1 ?_;refine FD 2 183 de tJ ?_;refine FD 3 1 be aR ?_;refine LR 4 Y3 (cn m rfl) ?_;refine AL 5 ?_;refine CE Nk (Leg.Does.hid (λa_=>m7 r 183 87 _ (dY (s'.rep a_)) s'.mirror m.whose)) ID ?_;refine bc ?_ ?_<;>intro h37;refine EN (PD 6 ?_);refine DN (ac J7 (CN (qx J6 (D1 1 mixed ?_))));refine PD 0 ?_;refine PD 1 ?_;refine PD 2 ?_;refine FD 3 1 be aR ?_;refine LR 4 Y3 (cn m rfl) ?_;refine PD 5 ?_;refine PD 6 ?_;refine FD 7 183 de tJ ?_;refine FD 8 1 be aR ?_;refine LR 9 Y3 (cn m rfl) ?_;refine AL 10 ?_;refine CE Ji (Leg.Does.hid (λa_=>lS r 183 87 _ (dY (s'.rep a_)) s'.mirror m.whose)) ID ?_
 refine EN (ta 11 rfl (lv MsgT.zero (MsgT.mk 9 m.whose (dr s'.mirror m.whose) 0 0 BallotT.zero BallotT.zero ChangeT.zero ViewT.zero) [(0,[Value.int .i64 9]),(1,[Value.int .i64 m.whose]),(2,ints (dr s'.mirror m.whose).flat)] be bv (g:=MsgT.sg)) ?_);refine AL 12 ?_;refine CZ jh (gk V r s' from' (g9 m.whose (dr s'.mirror m.whose)) (λs=>gd V.toDk s s.id (g9 m.whose (dr s.mirror m.whose))) (λ_=>wE V r s' m.whose _)) ID λvR=>?_
 refine EN (DN (WK [0] (bu rfl ?_)));exact MQ (by rw[fz,if_neg (λh=>h (ul h24 (by omega))),if_pos h37]);refine EN (PD 6 ?_);refine DN (ac J7 (CY (ab λ_ J8=>sr λ_ J9=>PS ?_)));refine FA 1 be aR ?_;refine LU 1 Y3 (cn m rfl) ?_;refine tp (lv RecT.zero (RecT.mk 2 m.whose RowT.zero 0 BallotT.zero ChangeT.zero ViewT.zero) [(0,[Value.int .i64 2]),(1,[Value.int .i64 m.whose])] ef e6 (g:=RecT.sg)) ?_;refine CE xa (lp V r s' (jv m.whose)) ID ?_;refine PS ?_;refine ao ?_ ?_<;>intro h44;refine nx J9 (CY (ai (af (af (WK [0] (dK rfl ?_))))));exact MQ (by rw[fz,if_neg (λh=>h (ul h24 (by omega))),if_neg (by rw[h37];decide),if_pos h44]);refine nx J9 (CN (qx J8 (D1 1 mixed ?_)));refine PD 0 ?_;refine PD 1 ?_;refine FD 2 183 de tJ ?_;refine FD 3 1 be aR ?_;refine LR 4 Y3 (cn m rfl) ?_;refine AL 5 ?_;refine CE MA (Leg.Does.hid (λa_=>sW r 183 87 _ (dY ((ej V.toDk s' (jv m.whose)).rep a_)) (ej V.toDk s' (jv m.whose)).mirror m.whose)) ID ?_;refine EN (DN (ac J6 (D1 1 mixed ?_)));refine PD 0 ?_;refine PD 1 ?_;refine PD 2 ?_;refine FD 3 1 be aR ?_;refine LR 4 Y3 (cn m rfl) ?_;refine PD 5 ?_;refine PD 6 ?_;refine FD 7 183 de tJ ?_;refine FD 8 1 be aR ?_;refine LR 9 Y3 (cn m rfl) ?_;refine AL 10 ?_;refine CE Ji (Leg.Does.hid (λa_=>lS r 183 87 _ (dY ((mg (ej V.toDk s' (jv m.whose)) m.whose).rep a_)) (mg (ej V.toDk s' (jv m.whose)) m.whose).mirror m.whose)) ID ?_
 refine EN (ta 11 rfl (lv MsgT.zero (MsgT.mk 9 m.whose (dr (mg (ej V.toDk s' (jv m.whose)) m.whose).mirror m.whose) 0 0 BallotT.zero BallotT.zero ChangeT.zero ViewT.zero) [(0,[Value.int .i64 9]),(1,[Value.int .i64 m.whose]),(2,ints (dr (mg (ej V.toDk s' (jv m.whose)) m.whose).mirror m.whose).flat)] be bv (g:=MsgT.sg)) ?_);refine AL 12 ?_;refine CZ jh (gk V r (mg (ej V.toDk s' (jv m.whose)) m.whose) from' (g9 m.whose (dr (mg (ej V.toDk s' (jv m.whose)) m.whose).mirror m.whose)) (λs=>gd V.toDk s s.id (g9 m.whose (dr s.mirror m.whose))) (λ_=>wE V r (mg (ej V.toDk s' (jv m.whose)) m.whose) m.whose _)) ID λvR=>?_
 refine EN (DN (WK [0] (bu rfl ?_)));exact MQ (by rw[fz,if_neg (λh=>h (ul h24 (by omega))),if_neg (by rw[h37];decide),if_neg h44]);refine PD 10 ?_;refine PD 11 ?_;refine DN (ac J4 (sr λ_ J10=>PS ?_));refine PS ?_;refine PS ?_
 iterate 3 refine UT ?_
 refine PS ?_;refine nx J10 (CY (ai (af (WK [0] (dK rfl ?_)))));exact MQ (by rw[fz,if_pos (λh=>by rw[h]at h24;cases h24)])
section
variable {δ:Type} {V:Env δ} {r:Nat} {s:MS δ} {H:List HP} {h:Hl}
theorem F8(q:bD (cJ V r s::H) h): ∃vo,bD (vT V r s vo::H) h:=by
 obtain⟨a,q1⟩:=fu q;exact⟨a.vo,bp (p:=λa':Nat×Value=>[ah r (RepT.cells (s.rep ⟨a'.1,a.vo,a'.2⟩)) 87,V.lg a'.1 s.e,own a'.2 s.replies.length (ints (s.replies.flatMap ReplyT.flat)) 47 3,V.E s.e s.o]) (a.lg,a.rs) (IW (aC [3,0,0,0,0] rfl q1))⟩
theorem Cy(q:bD (vT V r s (.pointer none)::H) h):bD (cJ V r {s with vote:=none}::H) h:=by
 obtain⟨a,q1⟩:=fu q;have q2:bD (FL (.pointer none) none::([ah r (RepT.cells (s.rep ⟨a.1, .pointer none,a.2⟩)) 87,V.lg a.1 s.e,own a.2 s.replies.length (ints (s.replies.flatMap ReplyT.flat)) 47 3,V.E s.e s.o]++H)) h:=⟨em,h,DR h,(rc h).symm,rfl,q1⟩;exact bp (p:=λa:Adr=>[ah r (RepT.cells ({s with vote:=none}.rep a)) 87,V.lg a.lg {s with vote:=none}.e,own a.rs {s with vote:=none}.replies.length (ints ({s with vote:=none}.replies.flatMap ReplyT.flat)) 47 3,FL a.vo {s with vote:=none}.vote,V.E {s with vote:=none}.e {s with vote:=none}.o]) ⟨a.1, .pointer none,a.2⟩ (aC [1,1,1,0,0] rfl q2)
theorem sV(hv:s.vote=none)(q:bD (cJ V r s::H) h):bD (vT V r s (.pointer none)::H) h:=by
 obtain⟨a,q1⟩:=fu q;have q2:=aC [3,0,0,0,0] rfl q1;obtain⟨h1,h2,d,rfl,e,q3⟩:=q2;rw[hv]at e;have e':a.vo= .pointer none:=e;obtain⟨lg,vo,rs⟩:=a;obtain rfl:=e';rw[nB d];exact lJ _ (bp (p:=λa':Nat×Value=>[ah r (RepT.cells (s.rep ⟨a'.1, .pointer none,a'.2⟩)) 87,V.lg a'.1 s.e,own a'.2 s.replies.length (ints (s.replies.flatMap ReplyT.flat)) 47 3,V.E s.e s.o]) (lg,rs) q3) d.symm
theorem m6{vt:VoteT}(hv:s.vote=some vt)(q:bD (cJ V r s::H) h): ∃vb,bD (vT V r s (.pointer (some ⟨vb,0,none⟩))::ah vb (VoteT.cells vt) 207::H) h:=by
 obtain⟨a,q1⟩:=fu q;have q2:=aC [3,0,0,0,0] rfl q1;obtain⟨h1,h2,d,rfl,e,q3⟩:=q2;rw[hv]at e;obtain⟨vb,e',e⟩:=e;obtain⟨lg,vo,rs⟩:=a;have e2:vo= .pointer (some ⟨vb,0,none⟩):=e';obtain rfl:=e2;refine⟨vb,ei (List.Perm.swap _ _ _) ?_⟩;exact⟨h1,h2,d,rfl,e,bp (p:=λa':Nat×Value=>[ah r (RepT.cells (s.rep ⟨a'.1, .pointer (some ⟨vb,0,none⟩),a'.2⟩)) 87,V.lg a'.1 s.e,own a'.2 s.replies.length (ints (s.replies.flatMap ReplyT.flat)) 47 3,V.E s.e s.o]) (lg,rs) q3⟩
theorem oe{vt:VoteT}{vb:Nat}(q:bD (vT V r s (.pointer (some ⟨vb,0,none⟩))::ah vb (VoteT.cells vt) 207::H) h):bD (cJ V r {s with vote:=some vt}::H) h:=by
 obtain⟨a,q1⟩:=fu q;have q2:bD ([ah r (RepT.cells (s.rep ⟨a.1, .pointer (some ⟨vb,0,none⟩),a.2⟩)) 87,V.lg a.1 s.e,own a.2 s.replies.length (ints (s.replies.flatMap ReplyT.flat)) 47 3,V.E s.e s.o]++(FL (.pointer (some ⟨vb,0,none⟩)) (some vt)::H)) h:=GQ (λ_ e=>⟨vb,rfl,e⟩) q1;exact bp (p:=λa:Adr=>[ah r (RepT.cells ({s with vote:=some vt}.rep a)) 87,V.lg a.lg {s with vote:=some vt}.e,own a.rs {s with vote:=some vt}.replies.length (ints ({s with vote:=some vt}.replies.flatMap ReplyT.flat)) 47 3,FL a.vo {s with vote:=some vt}.vote,V.E {s with vote:=some vt}.e {s with vote:=some vt}.o]) ⟨a.1, .pointer (some ⟨vb,0,none⟩),a.2⟩ (aC [0,0,0,1,0] rfl q2)
theorem og{vt:VoteT}{vb:Nat}(hv:s.vote=some vt)(q:bD (vT V r s (.pointer (some ⟨vb,0,none⟩))::ah vb (VoteT.cells vt) 207::H) h):bD (cJ V r s::H) h:=by
 have q2:=oe q
 rwa [show({s with vote:=some vt}:MS δ)=s by cases s;simp_all]at q2
end
theorem C1{δ:Type}(V:Env δ)(r:Nat)(s:MS δ)(v:ViewT):
 DT 67 #[(.pointer (some ⟨r,0,none⟩)),(.agg (ints v.flat).toArray)] T0 [cJ V r s] (dm (λ_ H=>H=[cJ V r (nb s v)])):=by
 refine BD 20 Tryz.func67 rfl rfl rfl λw0 F hF=>sr λ_ J1=>XY (ints v.flat) λb3=>?_
 refine nx J1 (sr λ_ J2=>PS ?_);refine LW 0 eH bg an ?_;refine PS ?_;refine FA 2 de bg ?_;refine gS (vs:=ints v.flat) (i:=1) (aa rfl) rfl rfl rfl rfl rfl (by rw[(an v)];exact bg) (bk _) rfl rfl (λ_=>LC (cT _) (an _)) (λa_=>(Qy (s.rep a_) 0 rfl (by have h1:=(an v);omega) (ct ((an ((s.rep a_).view)).trans (an v).symm)))) (nx J2 (sr λ_ J3=>PS ?_));refine FA 0 eH aR ?_;refine LU 0 Y3 (bb v rfl) ?_;refine tp (lv AccT.zero (AccT.mk v.epoch BallotT.zero BallotT.zero ChangeT.zero) [(0,[Value.int .i64 v.epoch])] pK oC (g:=AccT.sg)) ?_;refine PS ?_;refine FA 1058 de fG ?_;refine gS (vs:=ints (AccT.mk v.epoch BallotT.zero BallotT.zero ChangeT.zero).flat) (i:=1) (aa rfl) rfl rfl rfl rfl rfl (by rw[(a8 (AccT.mk v.epoch BallotT.zero BallotT.zero ChangeT.zero))];exact fG) (bk _) rfl rfl (λ_=>LC (cT _) (a8 _)) (λa_=>(kE ((MS.setView s v).rep a_) 0 rfl (by have h1:=(a8 (AccT.mk v.epoch BallotT.zero BallotT.zero ChangeT.zero));omega) (ct ((a8 (((MS.setView s v).rep a_).acc)).trans (a8 (AccT.mk v.epoch BallotT.zero BallotT.zero ChangeT.zero)).symm)))) (nx J3 (sr λ_ J4=>cm (λ_ q=>aC [1] rfl q) (QJ (H':=λvo:Value=>vT V r (MS.setAcc (MS.setView s v) (AccT.mk v.epoch BallotT.zero BallotT.zero ChangeT.zero)) vo::[ah b3 (ints v.flat) 32]) (λ_ q=>F8 q) (λvo=>P2 ?_))));refine FA 1067 de mU ?_;refine SK 0 mU (λ_=>cT _) ?_ (hc:=by exact λa_=>(Qz _ rfl _))
 refine nx J4 (ad (cm (H':=cJ V r {{s with view:=v}with acc:= {AccT.zero with epoch:=v.epoch},vote:=none}::[ah b3 (ints v.flat) 32]) (λ_ q=>Cy (aC [0] rfl q)) (P2 ?_)));refine FA 1066 de aR ?_;refine SK 0 aR (λ_=>cT _) ?_ (hc:=by exact λa_=>(l4 _ rfl _));exact ap (WK [0] (bu rfl rfl))
theorem uT{δ:Type}(V:Env δ)(r:Nat)(s:MS δ)(v:ViewT)[OkR V.toDk s][OkVw v](hcl: ¬v.epoch≤s.view.epoch→DT 85 #[.pointer (some ⟨r,0,none⟩), .iface V.T V.ov] T0 [cJ V r (nb (ej V.toDk s (lw v)) v)] (dm (λ_ H=>H=[cJ V r (rT V.toDk (nb (ej V.toDk s (lw v)) v))]))):
 DT 123 #[(.pointer (some ⟨r,0,none⟩)),(.iface V.T V.ov),(.agg (ints v.flat).toArray)] T0 [cJ V r s] (RI (.bool (qO V.toDk s v)) [cJ V r (il V.toDk s v)]):=by
 refine BD 28 Tryz.func123 rfl rfl rfl λw0 F hF=>sr λ_ J1=>XY (ints v.flat) λb5=>?_
 refine PS ?_;refine nx J1 (ab λ_ J2=>ab λ_ J3=>DC mixed (BL 0) (cU 1 rfl rfl) ?_);refine FD 0 0 eH aR ?_;refine LR 1 Y3 (bb v rfl) ?_;refine PD 2 ?_;refine PD 3 ?_;refine FD 4 2 de bg ?_;refine FD 5 2 eH aR ?_;refine ta 6 rfl (di (v:=(.int .i64 (s.view.epoch))) rfl Y3 rfl rfl (λ_ h=>h.2.2.1) (λa_=>(cg (s.rep a_) 0 rfl (by decide) (bb _ rfl)))) ?_;refine PD 7 ?_;refine iT ?_ ?_<;>intro h14;refine PD 8 ?_;refine NT 9 ?_;refine NT 10 ?_;refine NT 11 ?_;refine NT 12 ?_;refine NT 13 ?_;refine PD 14 ?_;refine DN (ac J3 (CY (sr λ_ J4=>PS ?_)));refine nx J4 (ai (af (WK [1] (av rfl rfl ?_))));have e:il V.toDk s v=s:=by rw[il,if_pos h14]
 exact⟨by rw[qO,decide_eq_false (by omega),gO],congrArg (λq=>[cJ V r q]) e.symm⟩;refine PD 8 ?_;refine PD 9 ?_;refine LY 10 eH bg an ?_;refine tb 11 rfl (lv RecT.zero (RecT.mk 5 0 RowT.zero 0 BallotT.zero ChangeT.zero v) [(0,[Value.int .i64 5]),(6,ints v.flat)] ef e6 (g:=RecT.sg)) ?_;refine AL 12 ?_;refine CE xa (lp V r s (lw v)) (SM [1]) ?_;refine EN (PD 13 ?_);refine iT ?_ ?_<;>intro h20;refine PD 14 ?_;refine DN (ac J3 (CY (sr λ_ J5=>PS ?_)));refine nx J5 (ai (af (WK [0] (av rfl rfl ?_))));have e:il V.toDk s v=(ej V.toDk s (lw v)):=by rw[il,if_neg h14,if_pos h20]
 exact⟨by rw[qO,decide_eq_true (by omega),decide_eq_false h20,vG],congrArg (λq=>[cJ V r q]) e.symm⟩;refine PD 14 ?_;refine DN (ac J3 (CN (qx J2 (sr λ_ J6=>PS ?_))));refine LW 1 eH bg an ?_;refine CZ Nh (C1 V r (ej V.toDk s (lw v)) v) ID λvR=>?_
 refine nx J6 (sr λ_ J7=>P2 ?_);refine CZ Nd ((hcl (by omega))) ID λvR=>?_
 refine nx J7 (sr λ_ J8=>PS ?_);refine nx J8 (ai (WK [0] (av rfl rfl ?_)));have e:il V.toDk s v=(rT V.toDk (nb (ej V.toDk s (lw v)) v)):=by rw[il,if_neg h14,if_neg h20]
 exact⟨by rw[qO,decide_eq_true (by omega),decide_eq_true (by omega),vG],congrArg (λq=>[cJ V r q]) e.symm⟩
theorem CD{δ:Type}(V:Env δ)(r:Nat)(s:MS δ)(v:ViewT)[OkR V.toDk s][OkVw v](h:v.epoch≤s.view.epoch):DT 123 #[.pointer (some ⟨r,0,none⟩), .iface V.T V.ov, .agg (ints v.flat).toArray] T0 [cJ V r s] (dm (λq H=>(∃b,q= .bool b)∧H=[cJ V r s])):=
 (uT V r s v (λq=>absurd h q)).mono λe H hp=>by
  cases e with
  |returned q=>exact⟨⟨_,hp.1⟩,hp.2.trans (by rw[il,if_pos h])⟩
  |panicked c=>exact hp.elim
  |outgrown=>exact hp.elim
theorem wF{δ:Type}(V:Env δ)(r:Nat)(s:MS δ)(i:Int)[OkR V.toDk s]:TK V r 82 s s.id (oO i s.view) (fz V.toDk s s.id i):=Eh rfl (pX V r s s s.id (oO i s.view) (CD V r s s.view (Int.le_refl _)))
theorem qp{δ:Type}(V:Env δ)(r:Nat)(s:MS δ)[OkR V.toDk s]:
 DT 85 #[(.pointer (some ⟨r,0,none⟩)),(.iface V.T V.ov)] T0 [cJ V r s] (dm (λ_ H=>H=[cJ V r (rT V.toDk s)])):=by
 refine BD 39 Tryz.func85 rfl rfl rfl λw0 F hF=>sr λ_ J1=>PS ?_
 refine CR Mw (zz V r s) ID λvR HR hR=>?_
 obtain⟨_,rfl,rfl⟩:=hR;revert vR;intro ud;refine gT 0 rfl rfl (λhlud houd=>tp (df rfl iO rfl hlud) ?_);refine PS ?_;refine nx J1 (au ?_)
 refine bn (α:=(Nat)) (λk=>k≤(bI s).length) (λk=>[(0,(.pointer (some ⟨r,0,none⟩))),(1,(.iface V.T V.ov)),(9,ud),(10,(.int .i64 ((((bI s).length:Nat):Int)))),(11,(.int .i64 (((k:Nat):Int))))]) (λk=>[own ud ((bI s).length) (ints (bI s)) 3 1,cJ V r (fZ V.toDk ((bI s).take k) s)]) (λk=>(bI s).length-k) 0
  (aM _) SB
  (λ_ s=>s) (λk hinv=>?_)
 obtain hk:=hinv;have hcl:OkR V.toDk (fZ V.toDk ((bI s).take k) s):=uq _ _ inferInstance;refine sr λ_ J2=>PS ?_
 refine ao ?_ ?_<;>intro h12;refine nx J2 (ab λ_ J3=>CY (qx J3 (ab λ_ J4=>au (sr λ_ J5=>?_))));have hmm1:(bI s).getD k 0∈bI s:=by rw[List.getD_eq_getElem?_getD,List.getElem?_eq_getElem (by omega)];exact cH _
 have hm1:cM ((bI s).getD k 0)=true:=(xG hmm1).1;have hn1:0≤(bI s).getD k 0∧(bI s).getD k 0<5:=of_decide_eq_true hm1;refine hY 0 rfl rfl (by omega) (λge1 ce1 he1 _=>tp (bd (r:=k) he1 rfl iO aR rfl rfl (by omega) (by omega) (by omega)) ?_);refine tp (ca (v:=(.int .i64 (((bI s).getD k 0)))) rfl Y3 rfl rfl (fD 0 rfl he1 rfl) (xt (by omega))) ?_;refine PS ?_;refine nx J5 (sr λ_ J6=>PS ?_);refine CR Cs (qE ((bI s).getD k 0) hm1) ID λvR HR hR=>?_
 obtain⟨_,rfl,rfl⟩:=hR;revert vR;intro uw;refine gT 0 rfl rfl (λhluw _=>hY 0 rfl rfl (by omega) (λgw capw hvw hcapw=>tp (df rfl iO rfl hluw) ?_));refine PS ?_;refine nx J6 (au (si 2 (sr λ_ J7=>PS ?_)));refine nx J7 (ab λ_ J8=>CY (qx J8 (ab λ_ J9=>e5 (α:=Unit) (λ_u=>True) (λ_u=>[(0,(.pointer (some ⟨r,0,none⟩))),(1,(.iface V.T V.ov)),(5,(.int .i64 (((bI s).getD k 0)))),(9,ud),(10,(.int .i64 ((((bI s).length:Nat):Int)))),(11,(.int .i64 (((k:Nat):Int)))),(16,uw),(17,(.int .i64 2)),(18,(.int .i64 0)),(19,(.bool true))]) (λ_u=>[cJ V r (hX V.toDk (fZ V.toDk ((bI s).take k) s) ((bI s).getD k 0) ((((bI s).getD k 0)+1)%5)),own uw (2) ([.int .i64 ((((bI s).getD k 0)+1)%5), .int .i64 ((((bI s).getD k 0)+2)%5)]) 3 1,own ud ((bI s).length) (ints (bI s)) 3 1]) (λ_u hinv=>?_) (λtl9=>?_))));have _:=hinv;refine ac J9 (ad (tp (cr (r:=1) rfl rfl rfl (by decide)) ?_));refine PS ?_;refine ap (en (sr λ_ J10=>PS ?_))
 refine nx J10 (ab λ_ J11=>CY (qx J11 (ab λ_ J12=>e5 (α:=Unit) (λ_u=>True) (λ_u=>[(0,(.pointer (some ⟨r,0,none⟩))),(1,(.iface V.T V.ov)),(5,(.int .i64 (((bI s).getD k 0)))),(9,ud),(10,(.int .i64 ((((bI s).length:Nat):Int)))),(11,(.int .i64 (((k:Nat):Int)))),(16,uw),(17,(.int .i64 2)),(18,(.int .i64 1)),(19,(.bool true)),(37,(.int .i64 1))]) (λ_u=>[cJ V r (hX V.toDk (hX V.toDk (fZ V.toDk ((bI s).take k) s) ((bI s).getD k 0) ((((bI s).getD k 0)+1)%5)) ((bI s).getD k 0) ((((bI s).getD k 0)+2)%5)),own uw (2) ([.int .i64 ((((bI s).getD k 0)+1)%5), .int .i64 ((((bI s).getD k 0)+2)%5)]) 3 1,own ud ((bI s).length) (ints (bI s)) 3 1]) (λ_u hinv=>?_) (λtl12=>?_))));have _:=hinv;refine ac J12 (ad (tp (cr (r:=2) rfl rfl rfl (by decide)) ?_));refine PS ?_;refine ap (en (sr λ_ J13=>PS ?_));refine nx J13 (ab λ_ J14=>CN (aX (aA (aA (bl (ag (ac J4 (ad (AD ?_)))))))));refine PS ?_;refine ap ?_
 exact aI ((k+1):(Nat)) (by omega) (by show(bI s).length- (k+1)< (bI s).length-k;omega)
  SB
  (λ_ q=>by
   rw[Ds V.toDk (by omega) s]
   exact ak [2,0] rfl q)
 refine au (sr λ_ J15=>tp (bd (r:=1) hvw rfl iO aR rfl rfl (by omega) (by omega) rfl) ?_);refine tp (ca (v:=(.int .i64 (((((bI s).getD k 0)+2)%5)))) rfl Y3 rfl rfl (fD 1 rfl hvw rfl) rfl) ?_;refine PS ?_;refine nx J15 (sr λ_ J16=>P3 ?_);refine CE F5 (nv V r (hX V.toDk (fZ V.toDk ((bI s).take k) s) ((bI s).getD k 0) ((((bI s).getD k 0)+1)%5)) ((bI s).getD k 0) ((((bI s).getD k 0)+2)%5) hm1 (by omega)) ID ?_;refine bc ?_ ?_<;>intro h25;refine PS ?_;refine nx J16 (CN (aT (ag ?_)))
 exact aE
  SB
  (λ_ q=>by
   rw[hX,if_pos h25]
   exact ak [0,0,0] rfl q)
  (tl12 (():Unit) trivial)
 refine PS ?_;refine nx J16 (CY (ad ?_))
 iterate 6 refine PS ?_
 refine FA 2 de bg ?_;refine LZ 0 eH bg an ((hX V.toDk (fZ V.toDk ((bI s).take k) s) ((bI s).getD k 0) ((((bI s).getD k 0)+1)%5)).view) ?_ (hc:=by exact λ_=>cS _);refine tp (lv MsgT.zero (MsgT.mk 8 ((bI s).getD k 0) RowT.zero 0 0 BallotT.zero BallotT.zero ChangeT.zero ((hX V.toDk (fZ V.toDk ((bI s).take k) s) ((bI s).getD k 0) ((((bI s).getD k 0)+1)%5)).view)) [(0,[Value.int .i64 8]),(1,[Value.int .i64 ((bI s).getD k 0)]),(8,ints ((hX V.toDk (fZ V.toDk ((bI s).take k) s) ((bI s).getD k 0) ((((bI s).getD k 0)+1)%5)).view).flat)] be bv (g:=MsgT.sg)) ?_;refine CZ jh (gk V r (hX V.toDk (fZ V.toDk ((bI s).take k) s) ((bI s).getD k 0) ((((bI s).getD k 0)+1)%5)) ((((bI s).getD k 0)+2)%5) (oO ((bI s).getD k 0) (hX V.toDk (fZ V.toDk ((bI s).take k) s) ((bI s).getD k 0) ((((bI s).getD k 0)+1)%5)).view) (λs_=>fz V.toDk s_ s_.id ((bI s).getD k 0)) (λ_=>wF V r (hX V.toDk (fZ V.toDk ((bI s).take k) s) ((bI s).getD k 0) ((((bI s).getD k 0)+1)%5)) ((bI s).getD k 0))) ID λvR=>?_
 refine ap (ag ?_)
 exact aE
  SB
  (λ_ q=>by
   rw[hX,if_neg (by rw[h25];decide)]
   exact ak [0,0,0] rfl q)
  (tl12 (():Unit) trivial)
 refine au (sr λ_ J17=>tp (bd (r:=0) hvw rfl iO aR rfl rfl (by omega) (by omega) rfl) ?_);refine tp (ca (v:=(.int .i64 (((((bI s).getD k 0)+1)%5)))) rfl Y3 rfl rfl (fD 0 rfl hvw rfl) rfl) ?_;refine PS ?_;refine nx J17 (sr λ_ J18=>P3 ?_);refine CE F5 (nv V r (fZ V.toDk ((bI s).take k) s) ((bI s).getD k 0) ((((bI s).getD k 0)+1)%5) hm1 (by omega)) (SM [2]) ?_;refine bc ?_ ?_<;>intro h25;refine PS ?_;refine nx J18 (CN (aT (ag ?_)))
 exact aE
  SB
  (λ_ q=>by
   rw[hX,if_pos h25]
   exact ak [0,0,0] rfl q)
  (tl9 (():Unit) trivial)
 refine PS ?_;refine nx J18 (CY (ad ?_))
 iterate 6 refine PS ?_
 refine FA 2 de bg ?_;refine LZ 0 eH bg an ((fZ V.toDk ((bI s).take k) s).view) ?_ (hc:=by exact λ_=>cS _);refine tp (lv MsgT.zero (MsgT.mk 8 ((bI s).getD k 0) RowT.zero 0 0 BallotT.zero BallotT.zero ChangeT.zero ((fZ V.toDk ((bI s).take k) s).view)) [(0,[Value.int .i64 8]),(1,[Value.int .i64 ((bI s).getD k 0)]),(8,ints ((fZ V.toDk ((bI s).take k) s).view).flat)] be bv (g:=MsgT.sg)) ?_;refine CZ jh (gk V r (fZ V.toDk ((bI s).take k) s) ((((bI s).getD k 0)+1)%5) (oO ((bI s).getD k 0) (fZ V.toDk ((bI s).take k) s).view) (λs_=>fz V.toDk s_ s_.id ((bI s).getD k 0)) (λ_=>wF V r (fZ V.toDk ((bI s).take k) s) ((bI s).getD k 0))) ID λvR=>?_
 refine ap (ag ?_)
 exact aE
  SB
  (λ_ q=>by
   rw[hX,if_neg (by rw[h25];decide)]
   exact ak [0,0,0] rfl q)
  (tl9 (():Unit) trivial)
 refine nx J2 (ab λ_ J19=>CN (aX (aA (aA (bl (WK [1] (bu rfl ?_)))))));obtain rfl:k=(bI s).length:=by omega
 exact MQ (by rw[dC];rfl)
theorem uU{δ:Type}(V:Env δ)(r:Nat)(s:MS δ)(v:ViewT)[OkR V.toDk s][OkVw v]:DT 123 #[.pointer (some ⟨r,0,none⟩), .iface V.T V.ov, .agg (ints v.flat).toArray] T0 [cJ V r s] (RI (.bool (qO V.toDk s v)) [cJ V r (il V.toDk s v)]):=uT V r s v λ_=>qp V r _
theorem uV{δ:Type}(V:Env δ)(r:Nat)(s:MS δ)(v:ViewT)[OkR V.toDk s][OkVw v]:DT 123 #[.pointer (some ⟨r,0,none⟩), .iface V.T V.ov, .agg (ints v.flat).toArray] T0 [cJ V r s] (dm (λq H=>(∃b,q= .bool b)∧H=[cJ V r (il V.toDk s v)])):=
 (uU V r s v).mono λe H hp=>by
  cases e with
  |returned q=>exact⟨⟨_,hp.1⟩,hp.2⟩
  |panicked c=>exact hp.elim
  |outgrown=>exact hp.elim
theorem wm{δ:Type}(V:Env δ)(r:Nat)(s:MS δ)(from':Int)(m:MsgT)[OkR V.toDk s][OkMg m]:TK V r 124 s from' m (mJ V.toDk s from' m):=pX V r s _ from' m (uV V r s m.view)
theorem M1:Tryz.prog.eqGuardType Tryz.prog.depth 80=false:=by kernel_rfl
theorem MY:Tryz.prog.keyTypeAt 6 80=true:=by kernel_rfl
theorem Nu:qk Tryz.prog 6 80=some 2:=by kernel_rfl
theorem HZ:(match Tryz.prog.underlying 80 with|some (.struct _)|some (.array _ _)=>true|_=>false)=true:=by kernel_rfl
theorem Ib:Tryz.prog.cellsOf 80=2:=by kernel_rfl
theorem PQ:Tryz.prog.eqGuardType Tryz.prog.depth 82=false:=by kernel_rfl
theorem PM:Tryz.prog.keyTypeAt 6 82=true:=by kernel_rfl
theorem Qq:qk Tryz.prog 6 82=some 8:=by kernel_rfl
theorem O7:(match Tryz.prog.underlying 82 with|some (.struct _)|some (.array _ _)=>true|_=>false)=true:=by kernel_rfl
theorem Pb:Tryz.prog.cellsOf 82=8:=by kernel_rfl
theorem zo(a b:BallotT):
 DT 183 #[(.agg (ints a.flat).toArray),(.agg (ints b.flat).toArray)] T0 [] (RI (.bool (CC a b)) []):=by
 refine BD 20 Tryz.func183 rfl rfl rfl λw0 F hF=>sr λ_ J1=>XY (ints a.flat) λb2=>?_
 refine XY (ints b.flat) λb3=>?_
 refine PS ?_;refine nx J1 (ab λ_ J2=>sr λ_ J3=>FA 0 kf aR ?_);refine LU 1 Y3 (e9 a rfl) ?_;refine FA 0 kf aR ?_;refine LU 0 Y3 (e9 b rfl) ?_;refine PS ?_;refine ao ?_ ?_<;>intro h9;refine nx J3 (CY (sr λ_ J4=>FA 0 kf aR ?_));refine LU 1 Y3 (e9 a rfl) ?_;refine FA 0 kf aR ?_;refine LU 0 Y3 (e9 b rfl) ?_;refine P2 ?_;refine nx J4 (ai (af (WK [] (av rfl rfl ?_))));exact⟨congrArg Value.bool (by simp[CC, *]),rfl⟩;refine nx J3 (CN (qx J2 (sr λ_ J5=>FA 1 kf aR ?_)));refine LU 1 Y3 (BallotT.at_who a rfl) ?_;refine FA 1 kf aR ?_;refine LU 0 Y3 (BallotT.at_who b rfl) ?_;refine P2 ?_;refine nx J5 (ai (WK [] (av rfl rfl ?_)));exact⟨congrArg Value.bool (by simp[CC, *]),rfl⟩
theorem sO(a:AccT)(ep:Int)(b:BallotT):
 DT 165 #[(.agg (ints a.flat).toArray),(.int .i64 (ep)),(.agg (ints b.flat).toArray)] T0 [] (RI (.bool (zQ a ep b)) []):=by
 refine BD 22 Tryz.func165 rfl rfl rfl λw0 F hF=>sr λ_ J1=>XY (ints a.flat) λb3=>?_
 refine XY (ints b.flat) λb5=>?_
 refine PS ?_;refine nx J1 (sr λ_ J2=>PS ?_);refine FA 0 pK aR ?_;refine LU 1 Y3 (AccT.at_epoch a rfl) ?_;refine PS ?_;refine ao ?_ ?_<;>intro h10;refine PS ?_
 iterate 3 refine UT ?_
 refine P2 ?_
 iterate 4 refine UT ?_
 refine P2 ?_;refine nx J2 (ai (WK [] (av rfl rfl ?_)));exact⟨congrArg Value.bool (by simp[zQ, *]),rfl⟩;refine PS ?_;refine FA 0 kf aR ?_;refine LU 0 Y3 (e9 b rfl) ?_;refine PS ?_;refine ao ?_ ?_<;>intro h14;refine P2 ?_
 iterate 4 refine UT ?_
 refine P2 ?_;refine nx J2 (ai (WK [] (av rfl rfl ?_)));exact⟨congrArg Value.bool (by simp[zQ, *]),rfl⟩;refine P2 ?_;refine LW 0 kf cw aq ?_;refine FA 1 pK cw ?_;refine LV 1 kf cw aq AccT.sp_vow (y:=a.vow) ?_;refine CE Mk (zo b a.vow) ID ?_;refine P2 ?_;refine nx J2 (ai (WK [] (av rfl rfl ?_)));exact⟨congrArg Value.bool (by simp[zQ, *]),rfl⟩
theorem nE(a:AccT)(ep:Int)(b:BallotT):
 DT 132 #[(.agg (ints a.flat).toArray),(.int .i64 (ep)),(.agg (ints b.flat).toArray)] T0 [] (RI (.tuple #[.agg (ints (bW a ep b).1.flat).toArray, .bool (bW a ep b).2]) []):=by
 refine BD 16 Tryz.func132 rfl rfl rfl λw0 F hF=>sr λ_ J1=>XY (ints a.flat) λb3=>?_
 refine XY (ints b.flat) λb5=>?_
 refine XZ Ir (ints AccT.zero.flat) λb6=>?_
 refine PS ?_;refine nx J1 (ab λ_ J2=>sr λ_ J3=>LW 2 pK fG a8 ?_);refine PS ?_;refine LW 1 kf cw aq ?_;refine CE Mp (sO a ep b) ID ?_;refine bc ?_ ?_<;>intro h11;refine nx J3 (CY (sr λ_ J4=>LW 2 pK fG a8 ?_));refine SW 0 fG a8 ?_;refine PS ?_;refine nx J4 (ai (af (RT 0 [] pK fG (a8 _) ?_)));exact⟨by rw[bW];simp_all,rfl⟩;refine nx J3 (CN (qx J2 (sr λ_ J5=>LW 1 kf cw aq ?_)));refine FA 1 pK cw ?_;refine SP 2 cw aq a8 AccT.wp_vow ?_;refine nx J5 (sr λ_ J6=>LW 2 pK fG a8 ?_);refine SW 0 fG a8 ?_;refine PS ?_;refine nx J6 (ai (RT 0 [] pK fG (a8 _) ?_));exact⟨by rw[bW];simp_all,rfl⟩
theorem vf(a:AccT)(ep:Int)(b:BallotT)(ch:ChangeT):
 DT 182 #[(.agg (ints a.flat).toArray),(.int .i64 (ep)),(.agg (ints b.flat).toArray),(.agg (ints ch.flat).toArray)] T0 [] (RI (.tuple #[.agg (ints (gC a ep b ch).1.flat).toArray, .bool (gC a ep b ch).2]) []):=by
 refine BD 22 Tryz.func182 rfl rfl rfl λw0 F hF=>sr λ_ J1=>XY (ints a.flat) λb4=>?_
 refine XY (ints b.flat) λb6=>?_
 refine XY (ints ch.flat) λb7=>?_
 refine XZ Ir (ints AccT.zero.flat) λb8=>?_
 refine PS ?_;refine nx J1 (ab λ_ J2=>sr λ_ J3=>LW 3 pK fG a8 ?_);refine PS ?_;refine LW 2 kf cw aq ?_;refine CE Mp (sO a ep b) ID ?_;refine bc ?_ ?_<;>intro h13;refine nx J3 (CY (sr λ_ J4=>LW 3 pK fG a8 ?_));refine SW 0 fG a8 ?_;refine PS ?_;refine nx J4 (ai (af (RT 0 [] pK fG (a8 _) ?_)));exact⟨by rw[gC];simp_all,rfl⟩;refine nx J3 (CN (qx J2 (ab λ_ J5=>D2 2 1 mixed ?_)));refine LY 0 kf cw aq ?_;refine LY 1 kf cw aq ?_;refine LY 2 ng fq aJ ?_;refine FD 3 1 pK cw ?_;refine AL 4 ?_;refine SP 3 cw aq a8 AccT.wp_vow ?_;refine EN (FD 5 3 pK cw ?_);refine AL 6 ?_;refine SP 3 cw aq a8 AccT.wp_had ?_;refine EN (FD 7 5 pK fq ?_);refine AL 8 ?_;refine SP 3 fq aJ a8 AccT.wp_change ?_;refine EN (DN (ac J5 (sr λ_ J6=>LW 3 pK fG a8 ?_)));refine SW 0 fG a8 ?_;refine PS ?_;refine nx J6 (ai (RT 0 [] pK fG (a8 _) ?_));exact⟨by rw[gC];simp_all,rfl⟩
theorem nA(b:Int):
 DT 14 #[(.int .i64 (b))] T0 [] (dm (λr' H=>∃u,r'=u∧H=[own u (px b).length (ints (px b)) 3 1])):=by
 refine BD 19 Tryz.func14 rfl rfl rfl λw0 F hF=>sr λ_ J1=>PS ?_
 refine nx J1 (sr λ_ J2=>PS ?_);refine nx J2 (ab λ_ J3=>sr λ_ J4=>PS ?_);refine nx J4 (au ?_)
 refine bn (α:=(Nat)×(Value)) (λ⟨k,u⟩=>k≤5∧u.oneCell'=true) (λ⟨k,u⟩=>[(0,(.int .i64 (b))),(2,(.slice none 0 0)),(3,u),(5,(.int .i64 (((k:Nat):Int))))]) (λ⟨k,u⟩=>[own u ((kw b k).length) (ints (kw b k)) 3 1]) (λ⟨k,u⟩=>5-k) (0,(.slice none 0 0))
  ⟨aM _,rfl⟩ SB
  (λ_ s=>fR 3 1 (ak [] rfl s)) (λ⟨k,u⟩ hinv=>?_)
 obtain⟨hk,hu⟩:=hinv;have hol:=tN b k;refine sr λ_ J5=>PS ?_
 refine ao ?_ ?_<;>intro h6;refine nx J5 (ab λ_ J6=>CY (qx J6 (ab λ_ J7=>au (sr λ_ J8=>P2 ?_))));refine nx J8 (sr λ_ J9=>P2 ?_);refine tp (j5 (r:=(b.fdiv (2^min ((k:Nat):Int).toNat IntKind.i64.bits))) rfl rfl rfl (by omega) rfl) ?_;refine tp (pG (r:=((b.fdiv (2^min ((k:Nat):Int).toNat IntKind.i64.bits))%2)) rfl rfl rfl (mask (k:=1) (by decide) _)) ?_;refine PS ?_;refine ao ?_ ?_<;>intro h12;refine nx J9 (CY (ad (P2 ?_)));refine aQ (cells:=#[(.int .i64 (((k:Nat):Int)))]) (aa rfl) rfl rfl rfl iO oD rfl rfl rfl (by as_aux_lemma=>kernel_rfl) (λb15=>cj (k:=1) (news:=[(.int .i64 (((k:Nat):Int)))]) (nn':=(kw b k).length+1) (xs':=ints (kw b k)++[(.int .i64 (((k:Nat):Int)))]) (aa rfl) rfl rfl rfl iO oD rfl rfl rfl rfl rfl rfl (λ_ _=>gW rfl (RO 0) rfl) (by simp[Value.oneCell']) (by simp only[maxLen];omega) (by omega) (by simp) (by simp) (λv16 ov16=>PS ?_));refine ap (ag (ac J7 (ad (AD ?_))));refine PS ?_;refine ap ?_
 exact aI ((k+1,v16):(Nat)×(Value)) ⟨by omega,ov16⟩ (by show 5- (k+1)<5-k;omega)
  SB
  (λ_ q=>by
   show bD [own v16 (kw b (k+1)).length (ints (kw b (k+1))) 3 1] _;rw[show kw b (k+1)=kw b k++[((k:Nat):Int)]by rw[wy,if_pos (by rw[Ie,decide_eq_true (by assumption)])],ae,el]
   exact ak [1] rfl q)
 refine nx J9 (CN (aT (ag (ac J7 (ad (AD ?_))))));refine PS ?_;refine ap ?_
 exact aI ((k+1,u):(Nat)×(Value)) ⟨by omega,hu⟩ (by show 5- (k+1)<5-k;omega)
  SB
  (λ_ q=>by
   show bD [own u (kw b (k+1)).length (ints (kw b (k+1))) 3 1] _;rw[show kw b (k+1)=kw b k by rw[wy,if_neg (by rw[Ie,decide_eq_false (by assumption)];decide),aP]]
   exact ak [0] rfl q)
 refine nx J5 (ab λ_ J10=>CN (aX (aA (aA (bl (ac J3 (sr λ_ J11=>P2 ?_)))))));refine nx J11 (ai (WK [0] (av rfl rfl ?_)));obtain rfl:k=5:=by omega
 exact⟨u,rfl,rfl⟩
theorem AN(part all:Int):
 DT 192 #[(.int .i64 (part)),(.int .i64 (all))] T0 [] (RI (.bool (MF part all)) []):=by
 refine BD 15 Tryz.func192 rfl rfl rfl λw0 F hF=>sr λ_ J1=>PS ?_
 refine nx J1 (sr λ_ J2=>P2 ?_);refine tp (pG (r:=(qU .i64 part all)) rfl rfl rfl rfl) ?_;refine CR Ll (nA (qU .i64 part all)) ID λvR HR hR=>?_
 obtain⟨_,rfl,rfl⟩:=hR;revert vR;intro us1;refine gT 0 rfl rfl (λhlus1 _=>?_);have hzus1:=tN (qU .i64 part all) 5;change (px (qU .i64 part all)).length≤5 at hzus1;refine tp (df rfl iO rfl hlus1) ?_;refine tp (L8 (r:=(2* (((px (qU .i64 part all)).length:Nat):Int))) rfl rfl rfl (bH (by omega) (by omega))) ?_;refine PS ?_;refine CR Ll (nA all) ID λvR HR hR=>?_
 obtain⟨_,rfl,rfl⟩:=hR;revert vR;intro us2;refine gT 0 rfl rfl (λhlus2 _=>?_);have hzus2:=tN all 5;change (px all).length≤5 at hzus2;refine tp (df rfl iO rfl hlus2) ?_;refine P2 ?_;exact nx J2 (ai (WK [] (av rfl rfl ⟨rfl,rfl⟩)))
theorem jp(v:ViewT)(bits:Int):
 DT 184 #[(.agg (ints v.flat).toArray),(.int .i64 (bits))] T0 [] (RI (.bool (gK v bits)) []):=by
 refine BD 9 Tryz.func184 rfl rfl rfl λw0 F hF=>sr λ_ J1=>XY (ints v.flat) λb2=>?_
 refine PS ?_;refine nx J1 (sr λ_ J2=>PS ?_);refine FA 1 eH aR ?_;refine LU 0 Y3 (j0 v rfl) ?_;refine CE Ou (AN bits v.members) ID ?_;refine PS ?_;exact nx J2 (ai (WK [] (av rfl rfl ⟨rfl,rfl⟩)))
theorem Aa(v:ViewT)(b:BallotT)(ch:ChangeT):
 DT 133 #[(.agg (ints v.flat).toArray),(.agg (ints b.flat).toArray),(.agg (ints ch.flat).toArray)] T0 [] (dm (λr' H=>∃vb,r'= .pointer (some ⟨vb,0,none⟩)∧H=[ah vb (VoteT.cells (jy v b ch)) 207])):=by
 refine BD 12 Tryz.func133 rfl rfl rfl λw0 F hF=>sr λ_ J1=>XY (ints v.flat) λb3=>?_
 refine XY (ints b.flat) λb4=>?_
 refine XY (ints ch.flat) λb5=>?_
 refine PS ?_;refine nx J1 (sr λ_ J2=>LW 2 eH bg an ?_);refine LW 1 kf cw aq ?_;refine LW 0 ng fq aJ ?_;refine tp (yQ (cs:=VoteT.cells (VoteT.mk v b ch BallotT.zero 0 0 false)) (segs:=[ints ViewT.zero.flat,ints BallotT.zero.flat,ints ChangeT.zero.flat,ints BallotT.zero.flat,[Value.int .i64 0],[Value.int .i64 0],[Value.bool false]]) (res:=[ints v.flat,ints b.flat,ints ch.flat,ints BallotT.zero.flat,[Value.int .i64 0],[Value.int .i64 0],[Value.bool false]]) (parts:=[(0,ints v.flat),(1,ints b.flat),(2,ints ch.flat)]) rfl rfl jB (by kernel_rfl) (by kernel_rfl) rfl (fa rfl ((an v).trans (an ViewT.zero).symm) (fa rfl ((aq b).trans (aq BallotT.zero).symm) (fa rfl ((aJ ch).trans (aJ ChangeT.zero).symm) lM))) (fx (VoteT.mk v b ch BallotT.zero 0 0 false)).symm) ?_;refine XY (VoteT.cells (VoteT.mk v b ch BallotT.zero 0 0 false)) λb11=>?_
 refine PS ?_;exact nx J2 (ai (WK [0] (av rfl rfl ⟨b11,rfl,rfl⟩)))
theorem bM(vb:Nat)(v:VoteT):
 DT 134 #[(.pointer (some ⟨vb,0,none⟩))] T0 [ah vb (VoteT.cells v) 207] (RI (.agg (ints v.ballot.flat).toArray) [ah vb (VoteT.cells v) 207]):=by
 refine BD 7 Tryz.func134 rfl rfl rfl λw0 F hF=>sr λ_ J1=>XZ Pz (ints BallotT.zero.flat) λb2=>?_
 refine nx J1 (sr λ_ J2=>P2 ?_);refine FA 7 jB cw ?_;refine LV 1 kf cw aq VoteT.sp_ballot (y:=v.ballot) ?_;refine SW 0 cw aq ?_;refine nx J2 (ai (RC 0 [1] kf cw (aq _) ?_));exact⟨rfl,rfl⟩
theorem dd(vb:Nat)(v:VoteT):
 DT 89 #[(.pointer (some ⟨vb,0,none⟩))] T0 [ah vb (VoteT.cells v) 207] (RI (.agg (ints v.change.flat).toArray) [ah vb (VoteT.cells v) 207]):=by
 refine BD 7 Tryz.func89 rfl rfl rfl λw0 F hF=>sr λ_ J1=>XZ PA (ints ChangeT.zero.flat) λb2=>?_
 refine nx J1 (sr λ_ J2=>P2 ?_);refine FA 9 jB fq ?_;refine LV 1 ng fq aJ VoteT.sp_change (y:=v.change) ?_;refine SW 0 fq aJ ?_;refine nx J2 (ai (RC 0 [1] ng fq (aJ _) ?_));exact⟨rfl,rfl⟩
theorem nV(vb:Nat)(v:VoteT):
 DT 135 #[(.pointer (some ⟨vb,0,none⟩))] T0 [ah vb (VoteT.cells v) 207] (RI (.bool v.putting) [ah vb (VoteT.cells v) 207]):=by
 refine BD 7 Tryz.func135 rfl rfl rfl λw0 F hF=>sr λ_ J1=>PS ?_
 refine nx J1 (sr λ_ J2=>P2 ?_);refine FA 16 jB lc ?_;refine LU 0 Y4 (mh v rfl) ?_;refine PS ?_;exact nx J2 (ai (WK [0] (av rfl rfl ⟨rfl,rfl⟩)))
theorem D6(vb:Nat)(v:VoteT)(who:Int)(b had:BallotT)(ch:ChangeT)(hb:WF b.flat)(hvb:WF v.ballot.flat):
 DT 162 #[(.pointer (some ⟨vb,0,none⟩)),(.int .i64 (who)),(.agg (ints b.flat).toArray),(.agg (ints had.flat).toArray),(.agg (ints ch.flat).toArray)] T0 [ah vb (VoteT.cells v) 207] (RI (.bool (eQ v who b had ch).2) [ah vb (VoteT.cells (eQ v who b had ch).1) 207]):=by
 refine BD 76 Tryz.func162 rfl rfl rfl λw0 F hF=>sr λ_ J1=>XY (ints b.flat) λb7=>?_
 refine XY (ints had.flat) λb8=>?_
 refine XY (ints ch.flat) λb9=>?_
 refine PS ?_;refine nx J1 (ab λ_ J2=>ab λ_ J3=>D2 3 2 mixed ?_);refine PD 0 ?_;refine PD 1 ?_;refine FD 2 16 jB lc ?_;refine LR 3 Y4 (mh v rfl) ?_;refine oy ?_ ?_<;>intro h14;refine PD 4 ?_;refine NT 5 ?_;refine NT 6 ?_;refine NT 7 ?_;refine NT 8 ?_;refine NT 9 ?_;refine NT 10 ?_;refine PD 11 ?_;refine PD 12 ?_;refine NT 13 ?_;refine NT 14 ?_;refine NT 15 ?_;refine NT 16 ?_;refine NT 17 ?_;refine NT 18 ?_;refine NT 19 ?_;refine PD 20 ?_;refine DN (ac J3 (CY (sr λ_ J4=>PS ?_)));refine nx J4 (ai (af (WK [3] (av rfl rfl ?_))));have e:eQ v who b had ch=(v,false):=by rw[eQ,h14,if_pos (by rfl)]
 exact⟨congrArg (λq:VoteT×Bool=>Value.bool q.2) e.symm,congrArg (λq:VoteT×Bool=>[ah vb (VoteT.cells q.1) 207]) e.symm⟩;refine PD 4 ?_;refine LY 5 kf cw aq ?_;refine PD 6 ?_;refine PD 7 ?_;refine FD 8 7 jB cw ?_;refine tb 9 rfl (aN (vs:=ints v.ballot.flat) rfl kf rfl cw rfl (λ_ h=>h.2.1) (aq v.ballot) (L3 v 0 rfl (by decide) (whole (aq v.ballot)))) ?_;refine tb 10 rfl (L7 (a:=b.flat) (b:=v.ballot.flat) (m:=6) (c:=2) M1 MY rfl Nu (eZ (aq b)) (eZ (aq v.ballot)) ⟨iE HZ Ib (eZ (aq b)),iE HZ Ib (eZ (aq v.ballot))⟩ hb hvb rfl rfl rfl) ?_;refine iT ?_ ?_<;>intro h21;refine PD 11 ?_;refine PD 12 ?_;refine NT 13 ?_;refine NT 14 ?_;refine NT 15 ?_;refine NT 16 ?_;refine NT 17 ?_;refine NT 18 ?_;refine NT 19 ?_;refine PD 20 ?_;refine DN (ac J3 (CY (sr λ_ J5=>PS ?_)));refine nx J5 (ai (af (WK [3] (av rfl rfl ?_))));have e:eQ v who b had ch=(v,false):=by rw[eQ,nI,decide_eq_false h21,if_pos (by rw[h14];rfl)]
 exact⟨congrArg (λq:VoteT×Bool=>Value.bool q.2) e.symm,congrArg (λq:VoteT×Bool=>[ah vb (VoteT.cells q.1) 207]) e.symm⟩;refine PD 11 ?_;refine PD 12 ?_;refine PD 13 ?_;refine PD 14 ?_;refine FD 15 0 jB bg ?_;refine tb 16 rfl (aN (vs:=ints v.view.flat) rfl eH rfl bg rfl (λ_ h=>h.2.1) (an v.view) (DL v 0 rfl (by decide) (whole (an v.view)))) ?_;refine PD 17 ?_;refine AL 18 ?_;refine CE qa (dE v.view who) ID ?_;refine bc ?_ ?_<;>intro h29;have hw:0≤who∧who<5:=by unfold iQ cM at h29;simp only[ay,decide_eq_true_eq]at h29;exact h29.1
 refine EN (PD 19 ?_);refine PD 20 ?_;refine DN (ac J3 (CN (qx J2 (ab λ_ J6=>D0 mixed ?_))));refine PD 0 ?_;refine PD 1 ?_;refine FD 2 14 jB aR ?_;refine PD 4 ?_;refine ta 5 rfl (yO (r:=(da who)) rfl rfl rfl (by omega) rfl) ?_;refine AL 3 ?_;refine LU 3 Y3 (lY v rfl) ?_;refine EN (ta 6 rfl (Ks (r:=(iI .i64 v.vowed (da who))) rfl rfl rfl rfl) ?_);refine PD 7 ?_;refine FD 8 14 jB aR ?_;refine AL 9 ?_;refine SS 3 aR (nF _) (VoteT.set_vowed v rfl _) ?_;refine EN (DN (ac J6 (ab λ_ J7=>ab λ_ J8=>D2 1 3 mixed ?_)));refine FD 0 0 kf aR ?_;refine LR 1 Y3 (e9 had rfl) ?_;refine PD 2 ?_;refine iT ?_ ?_<;>intro h43;refine PD 3 ?_;refine PD 4 ?_;refine PD 5 ?_;refine FD 6 12 jB cw ?_;refine tb 7 rfl (aN (vs:=ints v.best.flat) rfl kf rfl cw rfl (λ_ h=>h.2.2.1) (aq v.best) (VoteT.sub_best (VoteT.mk v.view v.ballot v.change v.best (iI .i64 v.vowed (da who)) v.took v.putting) 0 rfl (by decide) (whole (aq v.best)))) ?_;refine LY 8 kf cw aq ?_;refine AL 9 ?_;refine CE Mk (zo v.best had) ID ?_;refine bc ?_ ?_<;>intro h50;refine EN (PD 10 ?_);refine DN (ac J8 (CY (D2 1 0 mixed ?_)));refine PD 0 ?_;refine PD 1 ?_;refine LY 2 kf cw aq ?_;refine LY 3 ng fq aJ ?_;refine PD 4 ?_;refine FD 5 12 jB cw ?_;refine AL 6 ?_;refine SP 3 cw aq nF VoteT.wp_best ?_;refine EN (PD 7 ?_);refine FD 8 9 jB fq ?_;refine AL 9 ?_;refine SP 3 fq aJ nF VoteT.wp_change ?_
 refine EN (DN (ac J7 (ab λ_ J9=>e5 (α:=Unit) (λ_=>True) (λ_u=>[(0,(.pointer (some ⟨vb,0,none⟩))),(10,(.bool false))]) (λ_u=>[ah b9 (ints ch.flat) 61,ah b8 (ints had.flat) 80,ah b7 (ints b.flat) 80,ah vb (VoteT.cells (VoteT.mk v.view v.ballot ch had (iI .i64 v.vowed (da who)) v.took (gK v.view (iI .i64 v.vowed (da who))))) 207]) (λ_u _=>?_) (λtl9=>?_))));refine ac J9 (sr λ_ J10=>P2 ?_);refine FA 16 jB lc ?_;refine LT 3 Y4 (.bool (gK v.view (iI .i64 v.vowed (da who)))) ?_ (hc:=by exact mh _ rfl);refine PS ?_;refine nx J10 (ai (WK [3] (av rfl rfl ?_)));have e:eQ v who b had ch=((VoteT.mk v.view v.ballot ch had (iI .i64 v.vowed (da who)) v.took (gK v.view (iI .i64 v.vowed (da who)))),gK v.view (iI .i64 v.vowed (da who))):=by rw[eQ,nI,decide_eq_true (show b.flat=v.ballot.flat from Decidable.not_not.1 h21),h29,h14,if_neg (by decide),wh,decide_eq_true (show 0<had.round by omega),h50,if_pos (by decide)]
 exact⟨congrArg (λq:VoteT×Bool=>Value.bool q.2) e.symm,congrArg (λq:VoteT×Bool=>[ah vb (VoteT.cells q.1) 207]) e.symm⟩;refine D0 mixed ?_;refine PD 0 ?_;refine PD 1 ?_;refine PD 2 ?_;refine FD 3 0 jB bg ?_;refine PD 5 ?_;refine PD 6 ?_;refine FD 7 14 jB aR ?_;refine cE [4,8] (by kernel_rfl) rfl (aF rfl ?_ ?_);refine LV 3 eH bg an pM (y:=v.view) ?_;refine EN (AL 8 ?_);refine LT 3 Y3 (.int .i64 ((iI .i64 v.vowed (da who)))) ?_ (hc:=by exact lY _ rfl);refine EN (AL 9 ?_);refine CE w9 (jp v.view (iI .i64 v.vowed (da who))) ID ?_;refine EN (PD 10 ?_);refine FD 11 16 jB lc ?_;refine AL 12 ?_;refine SS 3 lc (nF _) (lj _ rfl _) ?_;refine EN (DN ?_)
 exact aE
  SB
  (λ_ s=>s)
  (tl9 (():Unit) trivial)
 refine aF rfl ?_ ?_;refine LT 3 Y3 (.int .i64 ((iI .i64 v.vowed (da who)))) ?_ (hc:=by exact lY _ rfl);refine EN (AL 4 ?_);refine LV 3 eH bg an pM (y:=v.view) ?_;refine EN (AL 9 ?_);refine CE w9 (jp v.view (iI .i64 v.vowed (da who))) ID ?_;refine EN (PD 10 ?_);refine FD 11 16 jB lc ?_;refine AL 12 ?_;refine SS 3 lc (nF _) (lj _ rfl _) ?_;refine EN (DN ?_)
 exact aE
  SB
  (λ_ s=>s)
  (tl9 (():Unit) trivial)
 exact bB;refine EN (PD 10 ?_);refine DN (ac J8 (CN (qx J7 (ab λ_ J11=>e5 (α:=Unit) (λ_=>True) (λ_u=>[(0,(.pointer (some ⟨vb,0,none⟩))),(10,(.bool false))]) (λ_u=>[ah b9 (ints ch.flat) 61,ah b8 (ints had.flat) 80,ah b7 (ints b.flat) 80,ah vb (VoteT.cells (VoteT.mk v.view v.ballot v.change v.best (iI .i64 v.vowed (da who)) v.took (gK v.view (iI .i64 v.vowed (da who))))) 207]) (λ_u _=>?_) (λtl11=>?_)))));refine ac J11 (sr λ_ J12=>P2 ?_);refine FA 16 jB lc ?_;refine LT 3 Y4 (.bool (gK v.view (iI .i64 v.vowed (da who)))) ?_ (hc:=by exact mh _ rfl);refine PS ?_;refine nx J12 (ai (WK [3] (av rfl rfl ?_)));have e:eQ v who b had ch=((VoteT.mk v.view v.ballot v.change v.best (iI .i64 v.vowed (da who)) v.took (gK v.view (iI .i64 v.vowed (da who)))),gK v.view (iI .i64 v.vowed (da who))):=by rw[eQ,nI,decide_eq_true (show b.flat=v.ballot.flat from Decidable.not_not.1 h21),h29,h14,if_neg (by decide),wh,h50,ma,if_neg (by decide)]
 exact⟨congrArg (λq:VoteT×Bool=>Value.bool q.2) e.symm,congrArg (λq:VoteT×Bool=>[ah vb (VoteT.cells q.1) 207]) e.symm⟩;refine D0 mixed ?_;refine PD 0 ?_;refine PD 1 ?_;refine PD 2 ?_;refine FD 3 0 jB bg ?_;refine PD 5 ?_;refine PD 6 ?_;refine FD 7 14 jB aR ?_;refine cE [4,8] (by kernel_rfl) rfl (aF rfl ?_ ?_);refine LV 3 eH bg an pM (y:=v.view) ?_;refine EN (AL 8 ?_);refine LT 3 Y3 (.int .i64 ((iI .i64 v.vowed (da who)))) ?_ (hc:=by exact lY _ rfl);refine EN (AL 9 ?_);refine CE w9 (jp v.view (iI .i64 v.vowed (da who))) ID ?_;refine EN (PD 10 ?_);refine FD 11 16 jB lc ?_;refine AL 12 ?_;refine SS 3 lc (nF _) (lj _ rfl _) ?_;refine EN (DN ?_)
 exact aE
  SB
  (λ_ s=>s)
  (tl11 (():Unit) trivial)
 refine aF rfl ?_ ?_;refine LT 3 Y3 (.int .i64 ((iI .i64 v.vowed (da who)))) ?_ (hc:=by exact lY _ rfl);refine EN (AL 4 ?_);refine LV 3 eH bg an pM (y:=v.view) ?_;refine EN (AL 9 ?_);refine CE w9 (jp v.view (iI .i64 v.vowed (da who))) ID ?_;refine EN (PD 10 ?_);refine FD 11 16 jB lc ?_;refine AL 12 ?_;refine SS 3 lc (nF _) (lj _ rfl _) ?_;refine EN (DN ?_)
 exact aE
  SB
  (λ_ s=>s)
  (tl11 (():Unit) trivial)
 exact bB;refine PD 3 ?_;refine NT 4 ?_;refine NT 5 ?_;refine NT 6 ?_;refine NT 7 ?_;refine NT 8 ?_;refine NT 9 ?_;refine PD 10 ?_;refine DN (ac J8 (CN (qx J7 (ab λ_ J13=>e5 (α:=Unit) (λ_=>True) (λ_u=>[(0,(.pointer (some ⟨vb,0,none⟩))),(10,(.bool false))]) (λ_u=>[ah b9 (ints ch.flat) 61,ah b8 (ints had.flat) 80,ah b7 (ints b.flat) 80,ah vb (VoteT.cells (VoteT.mk v.view v.ballot v.change v.best (iI .i64 v.vowed (da who)) v.took (gK v.view (iI .i64 v.vowed (da who))))) 207]) (λ_u _=>?_) (λtl13=>?_)))));refine ac J13 (sr λ_ J14=>P2 ?_);refine FA 16 jB lc ?_;refine LT 3 Y4 (.bool (gK v.view (iI .i64 v.vowed (da who)))) ?_ (hc:=by exact mh _ rfl);refine PS ?_;refine nx J14 (ai (WK [3] (av rfl rfl ?_)));have e:eQ v who b had ch=((VoteT.mk v.view v.ballot v.change v.best (iI .i64 v.vowed (da who)) v.took (gK v.view (iI .i64 v.vowed (da who)))),gK v.view (iI .i64 v.vowed (da who))):=by rw[eQ,nI,decide_eq_true (show b.flat=v.ballot.flat from Decidable.not_not.1 h21),h29,h14,if_neg (by decide),wh,decide_eq_false (show ¬0<had.round by omega),gO,if_neg (by decide)]
 exact⟨congrArg (λq:VoteT×Bool=>Value.bool q.2) e.symm,congrArg (λq:VoteT×Bool=>[ah vb (VoteT.cells q.1) 207]) e.symm⟩;refine D0 mixed ?_;refine PD 0 ?_;refine PD 1 ?_;refine PD 2 ?_;refine FD 3 0 jB bg ?_;refine PD 5 ?_;refine PD 6 ?_;refine FD 7 14 jB aR ?_;refine cE [4,8] (by kernel_rfl) rfl (aF rfl ?_ ?_);refine LV 3 eH bg an pM (y:=v.view) ?_;refine EN (AL 8 ?_);refine LT 3 Y3 (.int .i64 ((iI .i64 v.vowed (da who)))) ?_ (hc:=by exact lY _ rfl);refine EN (AL 9 ?_);refine CE w9 (jp v.view (iI .i64 v.vowed (da who))) ID ?_;refine EN (PD 10 ?_);refine FD 11 16 jB lc ?_;refine AL 12 ?_;refine SS 3 lc (nF _) (lj _ rfl _) ?_;refine EN (DN ?_)
 exact aE
  SB
  (λ_ s=>s)
  (tl13 (():Unit) trivial)
 refine aF rfl ?_ ?_;refine LT 3 Y3 (.int .i64 ((iI .i64 v.vowed (da who)))) ?_ (hc:=by exact lY _ rfl);refine EN (AL 4 ?_);refine LV 3 eH bg an pM (y:=v.view) ?_;refine EN (AL 9 ?_);refine CE w9 (jp v.view (iI .i64 v.vowed (da who))) ID ?_;refine EN (PD 10 ?_);refine FD 11 16 jB lc ?_;refine AL 12 ?_;refine SS 3 lc (nF _) (lj _ rfl _) ?_;refine EN (DN ?_)
 exact aE
  SB
  (λ_ s=>s)
  (tl13 (():Unit) trivial)
 exact bB;refine EN (PD 19 ?_);refine PD 20 ?_;refine DN (ac J3 (CY (sr λ_ J15=>PS ?_)));refine nx J15 (ai (af (WK [3] (av rfl rfl ?_))));have e:eQ v who b had ch=(v,false):=by rw[eQ,nI,h29,if_pos (by rw[h14,ma];rfl)]
 exact⟨congrArg (λq:VoteT×Bool=>Value.bool q.2) e.symm,congrArg (λq:VoteT×Bool=>[ah vb (VoteT.cells q.1) 207]) e.symm⟩
theorem Ef(vb:Nat)(v:VoteT)(who:Int)(b:BallotT)(hb:WF b.flat)(hvb:WF v.ballot.flat):
 DT 163 #[(.pointer (some ⟨vb,0,none⟩)),(.int .i64 (who)),(.agg (ints b.flat).toArray)] T0 [ah vb (VoteT.cells v) 207] (RI (.bool (gA v who b).2) [ah vb (VoteT.cells (gA v who b).1) 207]):=by
 refine BD 47 Tryz.func163 rfl rfl rfl λw0 F hF=>sr λ_ J1=>XY (ints b.flat) λb5=>?_
 refine PS ?_;refine nx J1 (ab λ_ J2=>ab λ_ J3=>D2 1 0 mixed ?_);refine PD 0 ?_;refine PD 1 ?_;refine FD 2 16 jB lc ?_;refine LR 3 Y4 (mh v rfl) ?_;refine oy ?_ ?_<;>intro h10;refine PD 4 ?_;refine PD 5 ?_;refine LY 6 kf cw aq ?_;refine PD 7 ?_;refine PD 8 ?_;refine FD 9 7 jB cw ?_;refine tb 10 rfl (aN (vs:=ints v.ballot.flat) rfl kf rfl cw rfl (λ_ h=>h.2.1) (aq v.ballot) (L3 v 0 rfl (by decide) (whole (aq v.ballot)))) ?_;refine tb 11 rfl (L7 (a:=b.flat) (b:=v.ballot.flat) (m:=6) (c:=2) M1 MY rfl Nu (eZ (aq b)) (eZ (aq v.ballot)) ⟨iE HZ Ib (eZ (aq b)),iE HZ Ib (eZ (aq v.ballot))⟩ hb hvb rfl rfl rfl) ?_;refine iT ?_ ?_<;>intro h18;refine PD 12 ?_;refine PD 13 ?_;refine NT 14 ?_;refine NT 15 ?_;refine NT 16 ?_;refine NT 17 ?_;refine NT 18 ?_;refine NT 19 ?_;refine NT 20 ?_;refine PD 21 ?_;refine DN (ac J3 (CY (sr λ_ J4=>PS ?_)));refine nx J4 (ai (af (WK [1] (av rfl rfl ?_))));have e:gA v who b=(v,false):=by rw[gA,nI,decide_eq_false h18,if_pos (by rw[h10];rfl)]
 exact⟨congrArg (λq:VoteT×Bool=>Value.bool q.2) e.symm,congrArg (λq:VoteT×Bool=>[ah vb (VoteT.cells q.1) 207]) e.symm⟩;refine PD 12 ?_;refine PD 13 ?_;refine PD 14 ?_;refine PD 15 ?_;refine FD 16 0 jB bg ?_;refine tb 17 rfl (aN (vs:=ints v.view.flat) rfl eH rfl bg rfl (λ_ h=>h.2.1) (an v.view) (DL v 0 rfl (by decide) (whole (an v.view)))) ?_;refine PD 18 ?_;refine AL 19 ?_;refine CE qa (dE v.view who) ID ?_;refine bc ?_ ?_<;>intro h26;have hw:0≤who∧who<5:=by unfold iQ cM at h26;simp only[ay,decide_eq_true_eq]at h26;exact h26.1
 refine EN (PD 20 ?_);refine PD 21 ?_;refine DN (ac J3 (CN (qx J2 (ab λ_ J5=>D0 mixed ?_))));refine PD 0 ?_;refine PD 1 ?_;refine FD 2 15 jB aR ?_;refine PD 4 ?_;refine ta 5 rfl (yO (r:=(da who)) rfl rfl rfl (by omega) rfl) ?_;refine AL 3 ?_;refine LU 1 Y3 (VoteT.at_took v rfl) ?_;refine EN (ta 6 rfl (Ks (r:=(iI .i64 v.took (da who))) rfl rfl rfl rfl) ?_);refine PD 7 ?_;refine FD 8 15 jB aR ?_;refine AL 9 ?_;refine SS 1 aR (nF _) (VoteT.set_took v rfl _) ?_;refine EN (DN (ac J5 (ab λ_ J6=>D1 1 mixed ?_)));refine PD 0 ?_;refine PD 1 ?_;refine FD 2 0 jB bg ?_;refine ta 3 rfl (aN (vs:=ints v.view.flat) rfl eH rfl bg rfl (λ_ h=>h.2.1) (an v.view) (DL (VoteT.mk v.view v.ballot v.change v.best v.vowed (iI .i64 v.took (da who)) v.putting) 0 rfl (by decide) (whole (an v.view)))) ?_;refine PD 4 ?_;refine PD 5 ?_;refine FD 6 15 jB aR ?_;refine LX 7 Y3 (.int .i64 ((iI .i64 v.took (da who)))) ?_ (hc:=by exact VoteT.at_took _ rfl);refine AL 8 ?_;refine CE w9 (jp v.view (iI .i64 v.took (da who))) ID ?_;refine EN (PD 9 ?_);refine DN (ac J6 (ai (WK [1] (av rfl rfl ?_))));have e:gA v who b=((VoteT.mk v.view v.ballot v.change v.best v.vowed (iI .i64 v.took (da who)) v.putting),gK v.view (iI .i64 v.took (da who))):=by rw[gA,nI,decide_eq_true (show b.flat=v.ballot.flat from Decidable.not_not.1 h18),h26,h10,if_neg (by decide)]
 exact⟨congrArg (λq:VoteT×Bool=>Value.bool q.2) e.symm,congrArg (λq:VoteT×Bool=>[ah vb (VoteT.cells q.1) 207]) e.symm⟩;refine EN (PD 20 ?_);refine PD 21 ?_;refine DN (ac J3 (CY (sr λ_ J7=>PS ?_)));refine nx J7 (ai (af (WK [1] (av rfl rfl ?_))));have e:gA v who b=(v,false):=by rw[gA,nI,h26,if_pos (by rw[h10,ma];rfl)]
 exact⟨congrArg (λq:VoteT×Bool=>Value.bool q.2) e.symm,congrArg (λq:VoteT×Bool=>[ah vb (VoteT.cells q.1) 207]) e.symm⟩;refine PD 4 ?_;refine PD 5 ?_;refine NT 6 ?_;refine NT 7 ?_;refine NT 8 ?_;refine NT 9 ?_;refine NT 10 ?_;refine NT 11 ?_;refine PD 12 ?_;refine PD 13 ?_;refine NT 14 ?_;refine NT 15 ?_;refine NT 16 ?_;refine NT 17 ?_;refine NT 18 ?_;refine NT 19 ?_;refine NT 20 ?_;refine PD 21 ?_;refine DN (ac J3 (CY (sr λ_ J8=>PS ?_)));refine nx J8 (ai (af (WK [1] (av rfl rfl ?_))));have e:gA v who b=(v,false):=by rw[gA,h10,if_pos (by rfl)]
 exact⟨congrArg (λq:VoteT×Bool=>Value.bool q.2) e.symm,congrArg (λq:VoteT×Bool=>[ah vb (VoteT.cells q.1) 207]) e.symm⟩
theorem Bd{δ:Type}(V:Env δ)(r vb:Nat)(s:MS δ)(vt:VoteT)(hv:s.vote=some vt)[OkR V.toDk s]:
 DT 164 #[(.pointer (some ⟨r,0,none⟩)),(.iface V.T V.ov)] T0 [vT V r s (.pointer (some ⟨vb,0,none⟩)),ah vb (VoteT.cells vt) 207] (dm (λ_ H=>H=[cJ V r (lC V.toDk s vt.change)])):=by
 refine BD 32 Tryz.func164 rfl rfl rfl λw0 F hF=>ab λ_ J1=>e5 (α:=(Nat)) (λ_=>True) (λb4=>[(0,(.pointer (some ⟨r,0,none⟩))),(1,(.iface V.T V.ov)),(4,(.pointer (some ⟨b4,0,none⟩))),(5,(.int .i64 ((dM s.view vt.change).2)))]) (λb4=>[ah b4 (ints ((dM s.view vt.change).1).flat) 32,ah vb (VoteT.cells vt) 207,vT V r s (.pointer (some ⟨vb,0,none⟩))]) (λb4 _=>?_) (λtl1=>?_)
 refine ac J1 (ab λ_ J2=>sr λ_ J3=>cm (H':=cJ V r s::[ah b4 (ints ((dM s.view vt.change).1).flat) 32]) (λ_ q=>og hv (aC [2,1] rfl q)) (P2 ?_));refine ao ?_ ?_<;>intro h20;refine PS ?_
 iterate 5 refine UT ?_
 refine PS ?_;refine nx J3 (CY (ai (af (WK [0] (dK rfl ?_)))));exact MQ (by rw[lC,if_pos h20]);refine P3 ?_;refine LW 1 eH bg an ?_;refine CE Ju (uU V r s ((dM s.view vt.change).1)) ID ?_;refine bc ?_ ?_<;>intro h25;refine PS ?_;refine PS ?_;refine nx J3 (CN (qx J2 (ad (P2 ?_))));refine LW 1 eH bg an ?_;refine CZ Nc (mR V r (il V.toDk s ((dM s.view vt.change).1)) ((dM s.view vt.change).1)) ID λvR=>?_
 refine ap (WK [0] (bu rfl ?_));exact MQ (by rw[lC,if_neg h20,h25,if_pos rfl]);refine PS ?_;refine PS ?_;refine nx J3 (CY (ai (af (WK [0] (dK rfl ?_)))));exact MQ (by rw[lC,if_neg h20,h25,if_neg (by decide)]);refine D1 1 mixed ?_;refine PD 0 ?_;refine PD 1 ?_;refine FD 2 2 de bg ?_;refine PD 4 ?_;refine PD 5 ?_;refine FD 6 1067 de mU ?_;refine cE [3,7,13] (by kernel_rfl) rfl (aF rfl ?_ ?_);refine LZ 0 eH bg an s.view ?_ (hc:=by exact λ_=>cS _);refine EN (cE [7,13] (by kernel_rfl) rfl (aF rfl ?_ ?_));refine LG 0 pA (.pointer (some ⟨vb,0,none⟩)) ?_ (hc:=by exact λa_=>(bX _ rfl));refine EN (cE [8,13] (by kernel_rfl) rfl (aF rfl ?_ ?_));refine CE ub (dd vb vt) (SM [1]) ?_;refine EN (cE [9,13] (by kernel_rfl) rfl (aF rfl ?_ ?_));refine CE m4 (dy s.view vt.change OkVw.rng) ID ?_;refine EN (PD 10 ?_);refine PD 11 ?_;refine PD 12 ?_;refine AL 13 ?_;refine XZ sh (ints ViewT.zero.flat) λb4=>?_
 refine EN (AL 14 ?_);refine SW 0 bg an ?_;refine EN (PD 15 ?_);refine DN ?_
 exact aE
  SB
  (λ_ s=>s)
  (tl1 ((b4):(Nat)) trivial)
 refine aF rfl ?_ ?_;refine XZ sh (ints ViewT.zero.flat) λb4=>?_
 refine EN (AL 9 ?_);refine CE m4 (dy s.view vt.change OkVw.rng) ID ?_;refine EN (PD 10 ?_);refine PD 11 ?_;refine PD 12 ?_;refine AL 14 ?_;refine SW 0 bg an ?_;refine EN (PD 15 ?_);refine DN ?_
 exact aE
  SB
  (λ_ s=>s)
  (tl1 ((b4):(Nat)) trivial)
 exact bB;refine aF rfl ?_ ?_;refine XZ sh (ints ViewT.zero.flat) λb4=>?_
 refine EN (AL 8 ?_);refine CE ub (dd vb vt) (SM [2]) ?_;refine EN (AL 9 ?_);refine CE m4 (dy s.view vt.change OkVw.rng) ID ?_;refine EN (PD 10 ?_);refine PD 11 ?_;refine PD 12 ?_;refine AL 14 ?_;refine SW 1 bg an ?_;refine EN (PD 15 ?_);refine DN ?_
 exact aE
  SB
  (λ_ s=>ak [1,0,0] rfl s)
  (tl1 ((b4):(Nat)) trivial)
 exact bB;refine aF rfl ?_ ?_;refine XZ sh (ints ViewT.zero.flat) λb4=>?_
 refine EN (AL 7 ?_);refine LG 1 pA (.pointer (some ⟨vb,0,none⟩)) ?_ (hc:=by exact λa_=>(bX _ rfl));refine EN (AL 8 ?_);refine CE ub (dd vb vt) (SM [2]) ?_;refine EN (AL 9 ?_);refine CE m4 (dy s.view vt.change OkVw.rng) ID ?_;refine EN (PD 10 ?_);refine PD 11 ?_;refine PD 12 ?_;refine AL 14 ?_;refine SW 1 bg an ?_;refine EN (PD 15 ?_);refine DN ?_
 exact aE
  SB
  (λ_ s=>ak [1,0,0] rfl s)
  (tl1 ((b4):(Nat)) trivial)
 exact bB;refine aF rfl ?_ ?_;refine LG 0 pA (.pointer (some ⟨vb,0,none⟩)) ?_ (hc:=by exact λa_=>(bX _ rfl));refine EN (cE [3,8,13] (by kernel_rfl) rfl (aF rfl ?_ ?_));refine LZ 0 eH bg an s.view ?_ (hc:=by exact λ_=>cS _);refine EN (cE [8,13] (by kernel_rfl) rfl (aF rfl ?_ ?_));refine CE ub (dd vb vt) (SM [1]) ?_;refine EN (cE [9,13] (by kernel_rfl) rfl (aF rfl ?_ ?_));refine CE m4 (dy s.view vt.change OkVw.rng) ID ?_;refine EN (PD 10 ?_);refine PD 11 ?_;refine PD 12 ?_;refine AL 13 ?_;refine XZ sh (ints ViewT.zero.flat) λb4=>?_
 refine EN (AL 14 ?_);refine SW 0 bg an ?_;refine EN (PD 15 ?_);refine DN ?_
 exact aE
  SB
  (λ_ s=>s)
  (tl1 ((b4):(Nat)) trivial)
 refine aF rfl ?_ ?_;refine XZ sh (ints ViewT.zero.flat) λb4=>?_
 refine EN (AL 9 ?_);refine CE m4 (dy s.view vt.change OkVw.rng) ID ?_;refine EN (PD 10 ?_);refine PD 11 ?_;refine PD 12 ?_;refine AL 14 ?_;refine SW 0 bg an ?_;refine EN (PD 15 ?_);refine DN ?_
 exact aE
  SB
  (λ_ s=>s)
  (tl1 ((b4):(Nat)) trivial)
 exact bB;refine aF rfl ?_ ?_;refine XZ sh (ints ViewT.zero.flat) λb4=>?_
 refine EN (AL 8 ?_);refine CE ub (dd vb vt) (SM [2]) ?_;refine EN (AL 9 ?_);refine CE m4 (dy s.view vt.change OkVw.rng) ID ?_;refine EN (PD 10 ?_);refine PD 11 ?_;refine PD 12 ?_;refine AL 14 ?_;refine SW 1 bg an ?_;refine EN (PD 15 ?_);refine DN ?_
 exact aE
  SB
  (λ_ s=>ak [1,0,0] rfl s)
  (tl1 ((b4):(Nat)) trivial)
 exact bB;refine aF rfl ?_ ?_;refine CE ub (dd vb vt) (SM [1]) ?_;refine EN (cE [3,13] (by kernel_rfl) rfl (aF rfl ?_ ?_));refine LZ 1 eH bg an s.view ?_ (hc:=by exact λ_=>cS _);refine EN (cE [9,13] (by kernel_rfl) rfl (aF rfl ?_ ?_));refine CE m4 (dy s.view vt.change OkVw.rng) ID ?_;refine EN (PD 10 ?_);refine PD 11 ?_;refine PD 12 ?_;refine AL 13 ?_;refine XZ sh (ints ViewT.zero.flat) λb4=>?_
 refine EN (AL 14 ?_);refine SW 0 bg an ?_;refine EN (PD 15 ?_);refine DN ?_
 exact aE
  SB
  (λ_ s=>s)
  (tl1 ((b4):(Nat)) trivial)
 refine aF rfl ?_ ?_;refine XZ sh (ints ViewT.zero.flat) λb4=>?_
 refine EN (AL 9 ?_);refine CE m4 (dy s.view vt.change OkVw.rng) ID ?_;refine EN (PD 10 ?_);refine PD 11 ?_;refine PD 12 ?_;refine AL 14 ?_;refine SW 0 bg an ?_;refine EN (PD 15 ?_);refine DN ?_
 exact aE
  SB
  (λ_ s=>s)
  (tl1 ((b4):(Nat)) trivial)
 exact bB;refine aF rfl ?_ ?_;refine XZ sh (ints ViewT.zero.flat) λb4=>?_
 refine EN (AL 3 ?_);refine LZ 2 eH bg an s.view ?_ (hc:=by exact λ_=>cS _);refine EN (AL 9 ?_);refine CE m4 (dy s.view vt.change OkVw.rng) ID ?_;refine EN (PD 10 ?_);refine PD 11 ?_;refine PD 12 ?_;refine AL 14 ?_;refine SW 0 bg an ?_;refine EN (PD 15 ?_);refine DN ?_
 exact aE
  SB
  (λ_ s=>s)
  (tl1 ((b4):(Nat)) trivial)
 exact bB;refine aF rfl ?_ ?_;refine XZ sh (ints ViewT.zero.flat) λb4=>?_
 refine EN (cE [3,8] (by kernel_rfl) rfl (aF rfl ?_ ?_));refine LZ 1 eH bg an s.view ?_ (hc:=by exact λ_=>cS _);refine EN (AL 8 ?_);refine CE ub (dd vb vt) (SM [2]) ?_;refine EN (AL 9 ?_);refine CE m4 (dy s.view vt.change OkVw.rng) ID ?_;refine EN (PD 10 ?_);refine PD 11 ?_;refine PD 12 ?_;refine AL 14 ?_;refine SW 1 bg an ?_;refine EN (PD 15 ?_);refine DN ?_
 exact aE
  SB
  (λ_ s=>ak [1,0,0] rfl s)
  (tl1 ((b4):(Nat)) trivial)
 refine aF rfl ?_ ?_;refine CE ub (dd vb vt) (SM [2]) ?_;refine EN (AL 3 ?_);refine LZ 2 eH bg an s.view ?_ (hc:=by exact λ_=>cS _);refine EN (AL 9 ?_);refine CE m4 (dy s.view vt.change OkVw.rng) ID ?_;refine EN (PD 10 ?_);refine PD 11 ?_;refine PD 12 ?_;refine AL 14 ?_;refine SW 1 bg an ?_;refine EN (PD 15 ?_);refine DN ?_
 exact aE
  SB
  (λ_ s=>ak [1,0,0] rfl s)
  (tl1 ((b4):(Nat)) trivial)
 exact bB;exact bB;refine aF rfl ?_ ?_;refine XZ sh (ints ViewT.zero.flat) λb4=>?_
 refine EN (cE [3,7] (by kernel_rfl) rfl (aF rfl ?_ ?_));refine LZ 1 eH bg an s.view ?_ (hc:=by exact λ_=>cS _);refine EN (AL 7 ?_);refine LG 1 pA (.pointer (some ⟨vb,0,none⟩)) ?_ (hc:=by exact λa_=>(bX _ rfl));refine EN (AL 8 ?_);refine CE ub (dd vb vt) (SM [2]) ?_;refine EN (AL 9 ?_);refine CE m4 (dy s.view vt.change OkVw.rng) ID ?_;refine EN (PD 10 ?_);refine PD 11 ?_;refine PD 12 ?_;refine AL 14 ?_;refine SW 1 bg an ?_;refine EN (PD 15 ?_);refine DN ?_
 exact aE
  SB
  (λ_ s=>ak [1,0,0] rfl s)
  (tl1 ((b4):(Nat)) trivial)
 refine aF rfl ?_ ?_;refine LG 1 pA (.pointer (some ⟨vb,0,none⟩)) ?_ (hc:=by exact λa_=>(bX _ rfl));refine EN (cE [3,8] (by kernel_rfl) rfl (aF rfl ?_ ?_));refine LZ 1 eH bg an s.view ?_ (hc:=by exact λ_=>cS _);refine EN (AL 8 ?_);refine CE ub (dd vb vt) (SM [2]) ?_;refine EN (AL 9 ?_);refine CE m4 (dy s.view vt.change OkVw.rng) ID ?_;refine EN (PD 10 ?_);refine PD 11 ?_;refine PD 12 ?_;refine AL 14 ?_;refine SW 1 bg an ?_;refine EN (PD 15 ?_);refine DN ?_
 exact aE
  SB
  (λ_ s=>ak [1,0,0] rfl s)
  (tl1 ((b4):(Nat)) trivial)
 refine aF rfl ?_ ?_;refine CE ub (dd vb vt) (SM [2]) ?_;refine EN (AL 3 ?_);refine LZ 2 eH bg an s.view ?_ (hc:=by exact λ_=>cS _);refine EN (AL 9 ?_);refine CE m4 (dy s.view vt.change OkVw.rng) ID ?_;refine EN (PD 10 ?_);refine PD 11 ?_;refine PD 12 ?_;refine AL 14 ?_;refine SW 1 bg an ?_;refine EN (PD 15 ?_);refine DN ?_
 exact aE
  SB
  (λ_ s=>ak [1,0,0] rfl s)
  (tl1 ((b4):(Nat)) trivial)
 exact bB;exact bB;exact bB
theorem Bc{δ:Type}(V:Env δ)(r:Nat)(s:MS δ)(vt:VoteT)(hv:s.vote=some vt)[OkR V.toDk s]:DT 164 #[.pointer (some ⟨r,0,none⟩), .iface V.T V.ov] T0 [cJ V r s] (dm (λ_ H=>H=[cJ V r (lC V.toDk s vt.change)])):=
 Leg.Does.ex (λ_ q=>m6 hv q) λvb=>Bd V r vb s vt hv
theorem oh{δ:Type}{V:Env δ}{r:Nat}{s:MS δ}{H:List HP}{h:Hl}(hv:s.vote=none)(q:bD (vT V r s (.pointer none)::H) h):bD (cJ V r s::H) h:=by
 have q2:=Cy q
 rwa [show({s with vote:=none}:MS δ)=s by cases s;simp_all]at q2
theorem kK{δ:Type}(V:Env δ)(r:Nat)(s:MS δ)(f:MS δ→MS δ)(from':Int)(m:MsgT)[OkR V.toDk s][OkMg m](hfe:from'=s.id→m.epoch=s.view.epoch)(h3:m.kind=3→m.epoch=s.view.epoch→TK V r 160 (dv s (max s.round m.ballot.round)) from' m (f (dv s (max s.round m.ballot.round))))(h5:m.kind=5→m.epoch=s.view.epoch→TK V r 161 (dv s (max s.round m.ballot.round)) from' m (f (dv s (max s.round m.ballot.round))))(hn:m.kind≠3∧m.kind≠5→f (dv s (max s.round m.ballot.round))=(dv s (max s.round m.ballot.round)))(hv:m.kind=4∨m.kind=6→s.vote=none):
 DT 126 #[(.pointer (some ⟨r,0,none⟩)),(.iface V.T V.ov),(.int .i64 (from')),(.agg (ints m.flat).toArray)] T0 [cJ V r s] (dm (λ_ H=>H=[cJ V r (eR V.toDk f s from' m)])):=by
 refine BD 124 Tryz.func126 rfl rfl rfl λw0 F hF=>sr λ_ J1=>XY (ints m.flat) λb7=>?_
 refine nx J1 (ab λ_ J2=>ab λ_ J3=>DC mixed (BL 0) (cU 1 rfl rfl) ?_);refine FD 0 177 be aR ?_;refine LR 1 Y3 (eL m rfl) ?_;refine PD 2 ?_;refine PD 3 ?_;refine FD 4 2 de bg ?_;refine FD 5 2 eH aR ?_;refine ta 6 rfl (di (v:=(.int .i64 (s.view.epoch))) rfl Y3 rfl rfl (λ_ h=>h.2.2.1) (λa_=>(cg (s.rep a_) 0 rfl (by decide) (bb _ rfl)))) ?_;refine PD 7 ?_;refine iT ?_ ?_<;>intro h15;refine DN (ac J3 (CY (ab λ_ J4=>sr λ_ J5=>FA 0 be aR ?_)));refine LU 0 Y3 (eT m rfl) ?_;refine PS ?_;refine ao ?_ ?_<;>intro h18;refine PS ?_
 iterate 3 refine UT ?_
 refine PS ?_;refine nx J5 (CY (ad ?_))
 iterate 5 refine PS ?_
 refine FA 2 de bg ?_;refine LZ 1 eH bg an s.view ?_ (hc:=by exact λ_=>cS _);refine tp (lv MsgT.zero (MsgT.mk 7 0 RowT.zero 0 0 BallotT.zero BallotT.zero ChangeT.zero s.view) [(0,[Value.int .i64 7]),(8,ints s.view.flat)] be bv (g:=MsgT.sg)) ?_;refine CZ jh (jw V r s from' (ka s.view) (λe=>absurd (hfe e) (by omega))) (SM [1]) λvR=>?_
 refine nx J4 (ai (af (WK [0] (dK rfl ?_))));exact congrArg (λq=>[cJ V r q]) (show(iP V.toDk s ([SaidT.mk from' (ka s.view)]))=eR V.toDk f s from' m by rw[eR,if_pos h15,if_pos (.inl h18)];rfl);refine PS ?_;refine FA 0 be aR ?_;refine LU 0 Y3 (eT m rfl) ?_;refine PS ?_;refine ao ?_ ?_<;>intro h22;refine PS ?_;refine nx J5 (CY (ad ?_))
 iterate 5 refine PS ?_
 refine FA 2 de bg ?_;refine LZ 1 eH bg an s.view ?_ (hc:=by exact λ_=>cS _);refine tp (lv MsgT.zero (MsgT.mk 7 0 RowT.zero 0 0 BallotT.zero BallotT.zero ChangeT.zero s.view) [(0,[Value.int .i64 7]),(8,ints s.view.flat)] be bv (g:=MsgT.sg)) ?_;refine CZ jh (jw V r s from' (ka s.view) (λe=>absurd (hfe e) (by omega))) (SM [1]) λvR=>?_
 refine nx J4 (ai (af (WK [0] (dK rfl ?_))));exact congrArg (λq=>[cJ V r q]) (show(iP V.toDk s ([SaidT.mk from' (ka s.view)]))=eR V.toDk f s from' m by rw[eR,if_pos h15,if_pos (.inr h22)];rfl);refine PS ?_;refine nx J5 (CN (qx J4 (ai (af (WK [1] (dK rfl ?_))))));exact congrArg (λq=>[cJ V r q]) (show s=eR V.toDk f s from' m by rw[eR,if_pos h15,if_neg (by omega)]);refine DN (ac J3 (CN (qx J2 (ab λ_ J6=>ab λ_ J7=>DC mixed (BL 0) (cU 1 rfl rfl) ?_))));refine FD 0 177 be aR ?_;refine LR 1 Y3 (eL m rfl) ?_;refine PD 2 ?_;refine PD 3 ?_;refine FD 4 2 de bg ?_;refine FD 5 2 eH aR ?_;refine ta 6 rfl (di (v:=(.int .i64 (s.view.epoch))) rfl Y3 rfl rfl (λ_ h=>h.2.2.1) (λa_=>(cg (s.rep a_) 0 rfl (by decide) (bb _ rfl)))) ?_;refine PD 7 ?_;refine iT ?_ ?_<;>intro h40;refine PD 8 ?_;refine NT 9 ?_;refine NT 10 ?_;refine NT 11 ?_;refine NT 12 ?_;refine NT 13 ?_;refine NT 14 ?_;refine NT 15 ?_;refine NT 16 ?_;refine NT 17 ?_;refine NT 18 ?_;refine PD 19 ?_;refine DN (ac J7 (CY (ai (af (WK [1] (dK rfl ?_))))));exact congrArg (λq=>[cJ V r q]) (show s=eR V.toDk f s from' m by rw[eR,if_neg h15,if_pos (.inl (by omega))]);refine PD 8 ?_;refine PD 9 ?_;refine PD 10 ?_;refine FD 11 2 de bg ?_;refine tb 12 rfl (fX (vs:=ints s.view.flat) rfl eH rfl bg rfl (λ_ h=>h.2.2.1) (an s.view) (λa_=>(fU (s.rep a_) 0 rfl (by decide) (whole (an ((s.rep a_).view)))))) ?_;refine PD 13 ?_;refine PD 14 ?_;refine FD 15 0 de aR ?_
 refine tb 16 rfl (di (v:=(.int .i64 (s.id))) rfl Y3 rfl rfl (λ_ h=>h.2.2.1) (λa_=>(cF _ rfl))) ?_;refine AL 17 ?_;refine CE qa (dE s.view s.id) ID ?_;refine bc ?_ ?_<;>intro h50;refine EN (PD 18 ?_);refine PD 19 ?_;refine DN (ac J7 (CN (qx J6 (ab λ_ J8=>D1 0 mixed ?_))));refine PD 0 ?_;refine PD 1 ?_;refine PD 2 ?_;refine FD 3 1066 de aR ?_;refine FD 5 178 be cw ?_;refine FD 6 178 kf aR ?_;refine LX 7 Y3 (.int .i64 (m.ballot.round)) ?_ (hc:=by exact MsgT.pt_ballot m 0 rfl (by decide) (e9 m.ballot rfl));refine AL 4 ?_;refine LG 1 Y3 (.int .i64 (s.round)) ?_ (hc:=by exact λa_=>(vD _ rfl));refine EN (ta 8 rfl (yP rfl rfl rfl) ?_);refine PD 9 ?_;refine FD 10 1066 de aR ?_;refine AL 11 ?_;refine SK 1 aR (λ_=>cT _) ?_ (hc:=by exact λa_=>(l4 _ rfl _));refine EN (DN (ac J8 (sr λ_ J9=>FA 0 be aR ?_)));refine LU 0 Y3 (eT m rfl) ?_;refine nx J9 (au (sr λ_ J10=>PS ?_));refine ao ?_ ?_<;>intro h67;refine PS ?_;refine nx J10 (CY (ad (P3 ?_)));refine LW 0 be cd aG ?_;refine CZ OE ((h3 (by omega) (by omega))) (SM [1]) λvR=>?_
 refine ap (ag (WK [0] (bu rfl ?_)));exact congrArg (λq=>[cJ V r q]) (show(f (dv s (max s.round m.ballot.round)))=eR V.toDk f s from' m by rw[eR,if_neg h15,if_neg (λh=>h.elim (λh=>absurd h (by omega)) (λh=>by rw[h50]at h;cases h))]);refine PS ?_;refine nx J10 (CN (sr λ_ J11=>PS ?_));refine ao ?_ ?_<;>intro h74;refine PS ?_;refine nx J11 (CY (ad (P3 ?_)));refine LW 0 be cd aG ?_;refine CZ OD ((h5 (by omega) (by omega))) (SM [1]) λvR=>?_
 refine ap (ag (WK [0] (bu rfl ?_)));exact congrArg (λq=>[cJ V r q]) (show(f (dv s (max s.round m.ballot.round)))=eR V.toDk f s from' m by rw[eR,if_neg h15,if_neg (λh=>h.elim (λh=>absurd h (by omega)) (λh=>by rw[h50]at h;cases h))]);refine PS ?_;refine nx J11 (CN (sr λ_ J12=>PS ?_));refine ao ?_ ?_<;>intro h81;refine cm (H':=vT V r (dv s (max s.round m.ballot.round)) (.pointer none)::[ah b7 (ints m.flat) 163]) (λ_ q=>sV (hv (by omega)) (aC [1] rfl q)) (PS ?_);refine nx J12 (CY (ab λ_ J13=>DC mixed (cU 0 rfl rfl) (BL 1) ?_));refine PD 0 ?_;refine PD 1 ?_;refine FD 2 1067 de mU ?_;refine ta 3 rfl (di (v:=(.pointer none)) rfl pA rfl rfl (λ_ h=>h.2.1) (λa_=>(bX _ rfl))) ?_;refine ta 4 rfl (iX rfl pA rfl rfl) ?_;refine PD 5 ?_;refine NT 6 ?_;refine NT 7 ?_;refine NT 8 ?_;refine NT 9 ?_;refine NT 10 ?_;refine NT 11 ?_;refine NT 12 ?_;refine NT 13 ?_;refine NT 14 ?_;refine NT 15 ?_;refine NT 16 ?_;refine NT 17 ?_;refine PD 18 ?_;refine DN (ac J13 (CN (aT (ag (aE (H':=[cJ V r (dv s (max s.round m.ballot.round))]) (db _) (λ_ q=>oh (hv (by omega)) (ak [0] rfl q)) (bu rfl ?_))))));exact congrArg (λq=>[cJ V r q]) (show(dv s (max s.round m.ballot.round))=eR V.toDk f s from' m by rw[eR,if_neg h15,if_neg (λh=>h.elim (λh=>absurd h (by omega)) (λh=>by rw[h50]at h;cases h)),hn (by omega)]);refine PS ?_;refine nx J12 (CN (sr λ_ J14=>PS ?_));refine ao ?_ ?_<;>intro h105
 refine cm (H':=vT V r (dv s (max s.round m.ballot.round)) (.pointer none)::[ah b7 (ints m.flat) 163]) (λ_ q=>sV (hv (by omega)) (aC [1] rfl q)) (PS ?_);refine nx J14 (CY (ab λ_ J15=>DC mixed (cU 0 rfl rfl) (BL 1) ?_));refine PD 0 ?_;refine PD 1 ?_;refine FD 2 1067 de mU ?_;refine ta 3 rfl (di (v:=(.pointer none)) rfl pA rfl rfl (λ_ h=>h.2.1) (λa_=>(bX _ rfl))) ?_;refine ta 4 rfl (iX rfl pA rfl rfl) ?_;refine PD 5 ?_;refine NT 6 ?_;refine NT 7 ?_;refine NT 8 ?_;refine NT 9 ?_;refine NT 10 ?_;refine NT 11 ?_;refine NT 12 ?_;refine NT 13 ?_;refine PD 14 ?_;refine DN (ac J15 (CN (aT (ag (aE (H':=[cJ V r (dv s (max s.round m.ballot.round))]) (db _) (λ_ q=>oh (hv (by omega)) (ak [0] rfl q)) (bu rfl ?_))))));exact congrArg (λq=>[cJ V r q]) (show(dv s (max s.round m.ballot.round))=eR V.toDk f s from' m by rw[eR,if_neg h15,if_neg (λh=>h.elim (λh=>absurd h (by omega)) (λh=>by rw[h50]at h;cases h)),hn (by omega)]);refine PS ?_;refine nx J14 (CN (aT (ag (WK [1] (bu rfl ?_)))));exact congrArg (λq=>[cJ V r q]) (show(dv s (max s.round m.ballot.round))=eR V.toDk f s from' m by rw[eR,if_neg h15,if_neg (λh=>h.elim (λh=>absurd h (by omega)) (λh=>by rw[h50]at h;cases h)),hn (by omega)]);refine EN (PD 18 ?_);refine PD 19 ?_;refine DN (ac J7 (CY (ai (af (WK [1] (dK rfl ?_))))));exact congrArg (λq=>[cJ V r q]) (show s=eR V.toDk f s from' m by rw[eR,if_neg h15,if_pos (.inr h50)])
theorem Ah(v:VoteT)(w:Int)(b:BallotT):(gA v w b).1.change=v.change:=by unfold gA;split<;>rfl
theorem pW{δ:Type}(V:Env δ)(r:Nat)(s:MS δ)(vt:VoteT)(from':Int)(m:MsgT)[OkR V.toDk s][OkMg m](hfe:from'=s.id→m.epoch=s.view.epoch)(hk:m.kind=4∨m.kind=6)(hv:s.vote=some vt)(hp:m.kind=4→(eQ vt from' m.ballot m.had m.change).2=true→DT 92 #[.pointer (some ⟨r,0,none⟩), .iface V.T V.ov] T0 [cJ V r (lE (dv s (max s.round m.ballot.round)) (eQ vt from' m.ballot m.had m.change).1)] (dm (λ_ H=>H=[cJ V r (kU V.toDk (lE (dv s (max s.round m.ballot.round)) (eQ vt from' m.ballot m.had m.change).1) (eQ vt from' m.ballot m.had m.change).1)]))):
    DT 126 #[(.pointer (some ⟨r,0,none⟩)),(.iface V.T V.ov),(.int .i64 (from')),(.agg (ints m.flat).toArray)] T0 [cJ V r s] (dm (λ_ H=>H=[cJ V r (eR V.toDk (λs_=>if m.kind=4 then pS V.toDk from' m s_ else lF V.toDk from' m s_) s from' m)])):=by
 refine BD 124 Tryz.func126 rfl rfl rfl λw0 F hF=>?_
 have hov:OkVt vt:=OkR.vote vt hv;refine sr λ_ J1=>XY (ints m.flat) λb7=>?_
 refine nx J1 (ab λ_ J2=>ab λ_ J3=>DC mixed (BL 0) (cU 1 rfl rfl) ?_);refine FD 0 177 be aR ?_;refine LR 1 Y3 (eL m rfl) ?_;refine PD 2 ?_;refine PD 3 ?_;refine FD 4 2 de bg ?_;refine FD 5 2 eH aR ?_;refine ta 6 rfl (di (v:=(.int .i64 (s.view.epoch))) rfl Y3 rfl rfl (λ_ h=>h.2.2.1) (λa_=>(cg (s.rep a_) 0 rfl (by decide) (bb _ rfl)))) ?_;refine PD 7 ?_;refine iT ?_ ?_<;>intro h15;refine DN (ac J3 (CY (ab λ_ J4=>sr λ_ J5=>FA 0 be aR ?_)));refine LU 0 Y3 (eT m rfl) ?_;refine PS ?_;refine ao ?_ ?_<;>intro h18;refine PS ?_
 iterate 3 refine UT ?_
 refine PS ?_;refine nx J5 (CY (ad ?_))
 iterate 5 refine PS ?_
 refine FA 2 de bg ?_;refine LZ 1 eH bg an s.view ?_ (hc:=by exact λ_=>cS _);refine tp (lv MsgT.zero (MsgT.mk 7 0 RowT.zero 0 0 BallotT.zero BallotT.zero ChangeT.zero s.view) [(0,[Value.int .i64 7]),(8,ints s.view.flat)] be bv (g:=MsgT.sg)) ?_;refine CZ jh (jw V r s from' (ka s.view) (λe=>absurd (hfe e) (by omega))) (SM [1]) λvR=>?_
 refine nx J4 (ai (af (WK [0] (dK rfl ?_))));exact MQ (by rw[eR,if_pos h15,if_pos (.inl h18)];rfl);refine PS ?_;refine FA 0 be aR ?_;refine LU 0 Y3 (eT m rfl) ?_;refine PS ?_;refine ao ?_ ?_<;>intro h22;refine PS ?_;refine nx J5 (CY (ad ?_))
 iterate 5 refine PS ?_
 refine FA 2 de bg ?_;refine LZ 1 eH bg an s.view ?_ (hc:=by exact λ_=>cS _);refine tp (lv MsgT.zero (MsgT.mk 7 0 RowT.zero 0 0 BallotT.zero BallotT.zero ChangeT.zero s.view) [(0,[Value.int .i64 7]),(8,ints s.view.flat)] be bv (g:=MsgT.sg)) ?_;refine CZ jh (jw V r s from' (ka s.view) (λe=>absurd (hfe e) (by omega))) (SM [1]) λvR=>?_
 refine nx J4 (ai (af (WK [0] (dK rfl ?_))));exact MQ (by rw[eR,if_pos h15,if_pos (.inr h22)];rfl);refine PS ?_;refine nx J5 (CN (qx J4 (ai (af (WK [1] (dK rfl ?_))))));exact MQ (by rw[eR,if_pos h15,if_neg (by omega)]);refine DN (ac J3 (CN (qx J2 (ab λ_ J6=>ab λ_ J7=>DC mixed (BL 0) (cU 1 rfl rfl) ?_))));refine FD 0 177 be aR ?_;refine LR 1 Y3 (eL m rfl) ?_;refine PD 2 ?_;refine PD 3 ?_;refine FD 4 2 de bg ?_;refine FD 5 2 eH aR ?_;refine ta 6 rfl (di (v:=(.int .i64 (s.view.epoch))) rfl Y3 rfl rfl (λ_ h=>h.2.2.1) (λa_=>(cg (s.rep a_) 0 rfl (by decide) (bb _ rfl)))) ?_;refine PD 7 ?_;refine iT ?_ ?_<;>intro h40;refine PD 8 ?_;refine NT 9 ?_;refine NT 10 ?_;refine NT 11 ?_;refine NT 12 ?_;refine NT 13 ?_;refine NT 14 ?_;refine NT 15 ?_;refine NT 16 ?_;refine NT 17 ?_;refine NT 18 ?_;refine PD 19 ?_;refine DN (ac J7 (CY (ai (af (WK [1] (dK rfl ?_))))));exact MQ (by rw[eR,if_neg h15,if_pos (.inl (by omega))]);refine PD 8 ?_;refine PD 9 ?_;refine PD 10 ?_;refine FD 11 2 de bg ?_;refine tb 12 rfl (fX (vs:=ints s.view.flat) rfl eH rfl bg rfl (λ_ h=>h.2.2.1) (an s.view) (λa_=>(fU (s.rep a_) 0 rfl (by decide) (whole (an ((s.rep a_).view)))))) ?_;refine PD 13 ?_;refine PD 14 ?_;refine FD 15 0 de aR ?_;refine tb 16 rfl (di (v:=(.int .i64 (s.id))) rfl Y3 rfl rfl (λ_ h=>h.2.2.1) (λa_=>(cF _ rfl))) ?_;refine AL 17 ?_;refine CE qa (dE s.view s.id) ID ?_;refine bc ?_ ?_<;>intro h50;refine EN (PD 18 ?_);refine PD 19 ?_
 refine DN (ac J7 (CN (qx J6 (ab λ_ J8=>D1 0 mixed ?_))));refine PD 0 ?_;refine PD 1 ?_;refine PD 2 ?_;refine FD 3 1066 de aR ?_;refine FD 5 178 be cw ?_;refine FD 6 178 kf aR ?_;refine LX 7 Y3 (.int .i64 (m.ballot.round)) ?_ (hc:=by exact MsgT.pt_ballot m 0 rfl (by decide) (e9 m.ballot rfl));refine AL 4 ?_;refine LG 1 Y3 (.int .i64 (s.round)) ?_ (hc:=by exact λa_=>(vD _ rfl));refine EN (ta 8 rfl (yP rfl rfl rfl) ?_);refine PD 9 ?_;refine FD 10 1066 de aR ?_;refine AL 11 ?_;refine SK 1 aR (λ_=>cT _) ?_ (hc:=by exact λa_=>(l4 _ rfl _));refine EN (DN (ac J8 (sr λ_ J9=>FA 0 be aR ?_)));refine LU 0 Y3 (eT m rfl) ?_;refine nx J9 (au (sr λ_ J10=>PS ?_));refine ao ?_ ?_<;>intro h67
 · exact absurd h67 (by omega)
 refine PS ?_;refine nx J10 (CN (sr λ_ J11=>PS ?_));refine ao ?_ ?_<;>intro h74
 · exact absurd h74 (by omega)
 refine PS ?_;refine nx J11 (CN (sr λ_ J12=>PS ?_));refine ao ?_ ?_<;>intro h81;refine QJ (H':=λvb:Nat=>vT V r (dv s (max s.round m.ballot.round)) (.pointer (some ⟨vb,0,none⟩))::ah vb (VoteT.cells vt) 207::[ah b7 (ints m.flat) 163]) (λ_ q=>m6 (s:=(dv s (max s.round m.ballot.round))) hv (aC [1] rfl q)) (λvb=>PS ?_);refine nx J12 (CY (ab λ_ J13=>D1 2 mixed ?_));refine PD 0 ?_;refine PD 1 ?_;refine FD 2 1067 de mU ?_;refine AL 3 ?_;refine LG 0 pA (.pointer (some ⟨vb,0,none⟩)) ?_ (hc:=by exact λa_=>(bX _ rfl));refine EN (ta 4 rfl (jq rfl pA rfl rfl) ?_);refine PD 5 ?_;refine PD 6 ?_;refine PD 7 ?_;refine FD 8 1067 de mU ?_;refine PD 10 ?_;refine FD 11 178 be cw ?_;refine tb 12 rfl (aN (vs:=ints m.ballot.flat) rfl kf rfl cw rfl (λ_ h=>h.2.1) (aq m.ballot) (iY m 0 rfl (by decide) (whole (aq m.ballot)))) ?_;refine FD 13 180 be cw ?_;refine tb 14 rfl (aN (vs:=ints m.had.flat) rfl kf rfl cw rfl (λ_ h=>h.2.1) (aq m.had) (QY m 0 rfl (by decide) (whole (aq m.had)))) ?_;refine FD 15 182 be fq ?_;refine tb 16 rfl (aN (vs:=ints m.change.flat) rfl ng rfl fq rfl (λ_ h=>h.2.1) (aJ m.change) (nr m 0 rfl (by decide) (whole (aJ m.change)))) ?_;refine AL 9 ?_;refine LG 0 pA (.pointer (some ⟨vb,0,none⟩)) ?_ (hc:=by exact λa_=>(bX _ rfl));refine EN (AL 17 ?_);refine CE OC (D6 vb vt from' m.ballot m.had m.change (OkMg.ballot) hov.ballot) (SM [1]) ?_;refine bc ?_ ?_<;>intro h99;refine EN (PD 18 ?_)
 refine DN (ac J13 (CY (ad (cm (H':=cJ V r (lE (dv s (max s.round m.ballot.round)) ((eQ vt from' m.ballot m.had m.change).1))::[ah b7 (ints m.flat) 163]) (λ_ q=>oe (aC [1,0] rfl q)) (P2 ?_)))));refine CZ Lg ((hp (by omega) h99)) ID λvR=>?_
 refine ap (ag (WK [0] (bu rfl ?_)))
 exact congrArg (λq=>[cJ V r q]) (show _=eR V.toDk (λs_=>if m.kind=4 then pS V.toDk from' m s_ else lF V.toDk from' m s_) s from' m by
                              rw[eR,if_neg h15,if_neg (λh=>h.elim (λh=>absurd h (by omega)) (λh=>by rw[h50]at h;cases h)),if_pos (by omega),pS];simp only[show(dv s (max s.round m.ballot.round)).vote=some vt from hv]
                              rw[if_pos h99])
 refine EN (PD 18 ?_);refine DN (ac J13 (CN (aT (ag (aE (H':=[cJ V r (lE (dv s (max s.round m.ballot.round)) (eQ vt from' m.ballot m.had m.change).1)]) (db _) (λ_ q=>oe (ak [1,0] rfl q)) (bu rfl ?_))))))
 exact congrArg (λq=>[cJ V r q]) (show(lE (dv s (max s.round m.ballot.round)) (eQ vt from' m.ballot m.had m.change).1)=eR V.toDk (λs_=>if m.kind=4 then pS V.toDk from' m s_ else lF V.toDk from' m s_) s from' m by
                              rw[eR,if_neg h15,if_neg (λh=>h.elim (λh=>absurd h (by omega)) (λh=>by rw[h50]at h;cases h)),if_pos (by omega),pS];simp only[show(dv s (max s.round m.ballot.round)).vote=some vt from hv]
                              rw[if_neg (by rw[h99];decide)])
 refine PS ?_;refine nx J12 (CN (sr λ_ J14=>PS ?_));refine ao ?_ ?_<;>intro h105;refine QJ (H':=λvb:Nat=>vT V r (dv s (max s.round m.ballot.round)) (.pointer (some ⟨vb,0,none⟩))::ah vb (VoteT.cells vt) 207::[ah b7 (ints m.flat) 163]) (λ_ q=>m6 (s:=(dv s (max s.round m.ballot.round))) hv (aC [1] rfl q)) (λvb=>PS ?_);refine nx J14 (CY (ab λ_ J15=>D1 2 mixed ?_));refine PD 0 ?_;refine PD 1 ?_;refine FD 2 1067 de mU ?_;refine AL 3 ?_;refine LG 0 pA (.pointer (some ⟨vb,0,none⟩)) ?_ (hc:=by exact λa_=>(bX _ rfl));refine EN (ta 4 rfl (jq rfl pA rfl rfl) ?_);refine PD 5 ?_;refine PD 6 ?_;refine PD 7 ?_;refine FD 8 1067 de mU ?_;refine PD 10 ?_;refine FD 11 178 be cw ?_;refine tb 12 rfl (aN (vs:=ints m.ballot.flat) rfl kf rfl cw rfl (λ_ h=>h.2.1) (aq m.ballot) (iY m 0 rfl (by decide) (whole (aq m.ballot)))) ?_;refine AL 9 ?_;refine LG 0 pA (.pointer (some ⟨vb,0,none⟩)) ?_ (hc:=by exact λa_=>(bX _ rfl));refine EN (AL 13 ?_);refine CE OB (Ef vb vt from' m.ballot (OkMg.ballot) hov.ballot) (SM [1]) ?_;refine bc ?_ ?_<;>intro h119;refine EN (PD 14 ?_);refine DN (ac J15 (CY (ad (cm (H':=cJ V r (lE (dv s (max s.round m.ballot.round)) ((gA vt from' m.ballot).1))::[ah b7 (ints m.flat) 163]) (λ_ q=>oe (aC [1,0] rfl q)) (P2 ?_)))));refine CZ OA (Bc V r (lE (dv s (max s.round m.ballot.round)) (gA vt from' m.ballot).1) (gA vt from' m.ballot).1 rfl) ID λvR=>?_
 refine ap (ag (WK [0] (bu rfl ?_)))
 exact congrArg (λq=>[cJ V r q]) (show _=eR V.toDk (λs_=>if m.kind=4 then pS V.toDk from' m s_ else lF V.toDk from' m s_) s from' m by
                                rw[eR,if_neg h15,if_neg (λh=>h.elim (λh=>absurd h (by omega)) (λh=>by rw[h50]at h;cases h)),if_neg (by omega),lF];simp only[show(dv s (max s.round m.ballot.round)).vote=some vt from hv]
                                rw[if_pos h119,Ah])
 refine EN (PD 14 ?_);refine DN (ac J15 (CN (aT (ag (aE (H':=[cJ V r (lE (dv s (max s.round m.ballot.round)) (gA vt from' m.ballot).1)]) (db _) (λ_ q=>oe (ak [1,0] rfl q)) (bu rfl ?_))))))
 exact congrArg (λq=>[cJ V r q]) (show(lE (dv s (max s.round m.ballot.round)) (gA vt from' m.ballot).1)=eR V.toDk (λs_=>if m.kind=4 then pS V.toDk from' m s_ else lF V.toDk from' m s_) s from' m by
                                rw[eR,if_neg h15,if_neg (λh=>h.elim (λh=>absurd h (by omega)) (λh=>by rw[h50]at h;cases h)),if_neg (by omega),lF];simp only[show(dv s (max s.round m.ballot.round)).vote=some vt from hv]
                                rw[if_neg (by rw[h119];decide)])
 · exact absurd h105 (by omega)
 refine EN (PD 18 ?_);refine PD 19 ?_;refine DN (ac J7 (CY (ai (af (WK [1] (dK rfl ?_))))));exact MQ (by rw[eR,if_neg h15,if_pos (.inr h50)])
end Go.Proofs.YtfocodjhmkokpaaGreatDoor
end
