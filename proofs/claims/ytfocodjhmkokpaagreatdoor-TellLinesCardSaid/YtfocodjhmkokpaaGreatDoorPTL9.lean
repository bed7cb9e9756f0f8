/-
  Joined texts:what a statement's proof reaches.
-/
import Derived.Test.YtfocodjhmkokpaaGreatDoorRows
import Derived.LaidSub
import Derived.Stop.LaidErr
import Derived.Lib.LaidTab
import Derived.Test.YtfocodjhmkokpaaGreatDoorPTL8
set_option maxHeartbeats 8000000
set_option maxRecDepth 100000
set_option linter.unusedSimpArgs false
set_option linter.unusedVariables false
section
namespace Go.Proofs.YtfocodjhmkokpaaGreatDoor
open Go Leg Codec Api Dsk Wal
theorem wJ(c n:Nat)(a:CL)(h:CLOk n a)(x:Value)(l:List OpT)(hn:n+l.length≤100000)(hok: ∀o∈l,OkOp o):
 DT 21 #[(.pointer (some ⟨c,0,none⟩)),x] (IsL 11 (EF OpT.flat) x l) [fY c a] (RI (.int .i64 ((qn a l:Nat):Int)) [fY c (gy a l)]):=by
 refine BD 22 Tryz.func21 rfl rfl rfl λw0 F hF=>sr λ_ J1=>PS ?_
 refine nx J1 (sr λ_ J2=>PS ?_);refine nx J2 (ab λ_ J3=>sr λ_ J4=>PS ?_);refine tp (df rfl Kq rfl hF.len) ?_;refine PS ?_;refine nx J4 (au ?_)
 refine bn (α:=(Nat)) (λk=>k≤l.length) (λk=>[(0,(.pointer (some ⟨c,0,none⟩))),(5,(.int .i64 (((qn a (l.take k):Nat):Int)))),(8,x),(9,(.int .i64 (((l.length:Nat):Int)))),(10,(.int .i64 (((k:Nat):Int))))]) (λk=>[fY c (gy a (l.take k))]) (λk=>l.length-k) 0
  (aM _) SB
  (λ_ s=>s) (λk hinv=>?_)
 obtain hk:=hinv;refine sr λ_ J5=>PS ?_
 refine ao ?_ ?_<;>intro h11;obtain⟨b_e,off_e,cap_e,cs_e,T_e,z_e,us_e,hv_e,hc_e,hb_e,hl_e,hs_e,hE_e⟩:=IsL.at hF (j:=k) (by omega);have hkl:k<l.length:=by omega
 obtain⟨o,ho⟩: ∃o,o=l[k]:=⟨_,rfl⟩;replace hE_e:us_e=ints l[k].flat:=hE_e;rw[←ho]at hE_e;have hoo:OkOp o:=ho▸hok _ (cH ..);have hck:CLOk (n+l.length) (gy a (l.take k)):=(Av (l.take k) h (λo ho=>hok o (ey ho))).more (by rw[bh];omega);have hdl:=ml (C9 (l.take k) a) (List.length_take_le k l);refine nx J5 (ab λ_ J6=>CY (qx J6 (ab λ_ J7=>au (sr λ_ J8=>tp (bd (r:=off_e+k*11) hv_e rfl Kq qT rfl rfl (by omega) (by omega) (by omega)) ?_))));refine tp (sj (vs:=ints o.flat) rfl ff rfl qT rfl (iG hb_e (λ_ h=>eb h)) (gg _) (hs_e.trans hE_e)) ?_;refine XZ PG (ints OpT.zero.flat) λb7=>?_
 refine SW 0 qT gg ?_;refine nx J8 (sr λ_ J9=>PS ?_);refine LW 0 ff qT gg ?_;refine CE Oj (Da (c:=c) (a:=gy a (l.take k)) (o:=o) hck (by omega) hoo) (SM [1]) ?_;refine PS ?_;refine ao ?_ ?_<;>intro h17;refine nx J9 (CY (ad (PS ?_)));refine AD ?_;refine PS ?_;refine ap (ag (ac J7 (ad (AD ?_))));refine PS ?_;refine ap ?_
 exact aI ((k+1):(Nat)) (by omega) (by show l.length- (k+1)<l.length-k;omega)
  (aK (bA rfl (by rw[xI a l hkl,←ho,if_pos h17];simp) SB))
  (λ_ s=>by rw[tQ a l hkl,←ho];exact ak [0] rfl s)
 refine nx J9 (CN (aT (ag (ac J7 (ad (AD ?_))))));refine PS ?_;refine ap ?_
 exact aI ((k+1):(Nat)) (by omega) (by show l.length- (k+1)<l.length-k;omega)
  (aK (bA rfl (by rw[xI a l hkl,←ho,if_neg h17];simp) SB))
  (λ_ s=>by rw[tQ a l hkl,←ho];exact ak [0] rfl s)
 refine nx J5 (ab λ_ J10=>CN (aX (aA (aA (bl (ac J3 (sr λ_ J11=>P2 ?_)))))));refine nx J11 (ai (aE (H':=[fY c (gy a l)]) (db _) (λ_ s=>by rw[show k=l.length by omega,dC]at s;exact s) (av rfl rfl ?_)));exact⟨by rw[show k=l.length by omega,dC],rfl⟩
theorem F1(bs:List UInt8): ∀o∈ld bs,OkOp o:=λo ho=>by
 obtain⟨k,hk,rfl⟩:=eO ho;have w:=KZ bs hk;exact⟨⟨λn hn=>w n (by simp only[OpT.flat,bJ,ci];simp only[hn,true_or,or_true])⟩,by have:=(vW (w _ (by simp[OpT.flat]:(ld bs)[k].n∈_))).2;omega⟩
theorem FN(l:List OpT)(h: ∀o∈l,OkOp o)(hl:l.length≤100000):TOk l.length (gy .new l):=⟨(Av l new_ok h).more (by omega),FU l new_ok EK Ln h (by omega)⟩
theorem Jd{bs:List UInt8}(h:bs.length≤4000):(ld bs).length≤800:=by rw[Jb bs.length bs rfl];omega
theorem yg(x:Value)(bs:List UInt8)(hb:bs.length≤4000):
 DT 23 #[x] (λF=>IsB x bs F∧TabR F) [] (RI (lH (gG (gy .new (ld bs)))) []):=by
 refine BD 11 Tryz.func23 rfl rfl rfl λw0 F hF=>?_
 have hol:=Jd hb;refine sr λ_ J1=>PS ?_
 refine nx J1 (sr λ_ J2=>CR Ot (zl) ID λvR HR hR=>?_);obtain⟨c,rfl,rfl⟩:=hR;refine PS ?_;refine nx J2 (sr λ_ J3=>P2 ?_);refine CQ Ql (w7 x bs (by omega)) ID (λ_ d _=>IsB.more hF.1 d) λvR HR hR=>?_
 obtain⟨_,rfl,rfl⟩:=hR;revert vR;intro u;refine CF Qm (wJ c 0 .new new_ok u (ld bs) (by omega) (F1 bs)) (SM [1]) (Lv OpT.flat_length 0 rfl rfl) ?_;refine nx J3 (sr λ_ J4=>PS ?_);refine CF Ov (pV c (gy .new (ld bs)) (ld bs).length (FN (ld bs) (F1 bs) (by omega)) (by omega)) ID (λ_ d _=>iV hF.2 d) ?_;refine PS ?_;exact nx J4 (ai (WK [] (av rfl rfl ⟨rfl,rfl⟩)))
theorem CJ{n:Int}(h:0≤n∧n<10):Lib.itoa n=Lz n:=by
 obtain⟨m,rfl⟩:=Int.eq_ofNat_of_zero_le h.1;rw[Lib.itoa_nonneg,Lib.decDigits_one (by omega)];rfl
theorem zi: ∀{l:List Int},(∀n∈l,0≤n∧n<10)→lQ l=Jf l
 | [],_=>rfl
 |n::l,h=>by
  show 32::Lib.itoa n++lQ l=32::Lz n++Jf l;rw[CJ (h n (eC ..)),zi λm hm=>h m (gN _ hm)]
def El(l:List Int):Bool:=l.all λn=>decide (0≤n∧n<10)
theorem Gr{p:Nat→Bool}{n:Nat}(h:(List.range n).all p=true)(i:Nat)(hi:i<n):p i=true:=List.all_eq_true.1 h i (dZ.2 hi)
theorem GP{l:List Int}(h:El l=true): ∀n∈l,0≤n∧n<10:=λn hn=>of_decide_eq_true (List.all_eq_true.1 h n hn)
theorem zn{ws:List UInt8}{l:List Int}(h:El l=true):m9 ws l=Ge ws l:=by unfold m9 Ge;rw[zi (GP h)]
def F7(i:Nat):Bool:=match(CL.new.at' i).run with
 |some s=>(CL.new.at' i).up&&(CL.new.at' i).reps.isEmpty&&decide (D8 s=[1,0,0,1,2])
 |none=>false
theorem Cv:((List.range 5).all F7)=true:=by decide+kernel
theorem EL:((List.range 4).all λk=>decide (yz CL.new k=[((k:Nat):Int),0,0,0,0,0,0]))=true:=by decide+kernel
def ME(i:Nat):List UInt8:=Ge (mW++Lz ((i:Nat):Int)++[32,117,112]) [1,0,0,1,2]
def O4(k:Nat):List UInt8:=Ge cW [((k:Nat):Int),0,0,0,0,0,0]
theorem qd{i:Nat}(hi:i<5):lU CL.new i=ME i:=by
 have h:=Gr Cv i hi;unfold F7 at h;cases hr:(CL.new.at' i).run with
 |none=>rw[hr]at h;cases h
 |some s=>
  rw[hr]at h;simp only[ay,decide_eq_true_eq]at h;rw[xg hr h.1.1,List.isEmpty_iff.1 h.1.2,show fJ []=[]from rfl,aP,uD,h.2,CJ (by omega),zn (by decide)];rfl
theorem vI{k:Nat}(hk:k<4):Dg CL.new k=O4 k:=by
 have h:=of_decide_eq_true (Gr EL k hk);rw[Dg,h,zn (by unfold El;simp;omega)];rfl
theorem FO:gG (gy .new (ld []))=(List.range 5).flatMap ME++(List.range 4).flatMap O4:=by
 show ji CL.new 5++oq CL.new 4=_;unfold ji oq;simp only[cZ,List.range_zero,ri,cV,List.flatMap_nil,bK,aP];rw[qd (i:=0) (by decide),qd (i:=1) (by decide),qd (i:=2) (by decide),qd (i:=3) (by decide),qd (i:=4) (by decide),vI (k:=0) (by decide),vI (k:=1) (by decide),vI (k:=2) (by decide),vI (k:=3) (by decide)]
theorem BE:(gG (gy .new (ld []))).length=203:=by rw[FO];decide+kernel
theorem IC:(gG (gy .new (ld []))).take 24=[109,97,99,104,105,110,101,32,48,32,117,112,32,49,32,48,32,48,32,49,32,50,10,109]:=by rw[FO];decide+kernel
theorem Fe:
 DT 7 #[] (TabR) [] (RI (.bool true) []):=by
 refine BD 14 Tryz.func7 rfl rfl rfl λw0 F hF=>sr λ_ J1=>PS ?_
 refine nx J1 (sr λ_ J2=>CF Qk (yg (.slice none 0 0) [] (by decide)) ID (λ_ d _=>⟨Or.inl ⟨rfl,rfl⟩,iV hF d⟩) ?_);refine PS ?_;refine nx J2 (sr λ_ J3=>PS ?_);refine tp (Gu (QL rfl Y9 rfl) (by rw[BE])) ?_;refine P3 ?_;refine tq (PV.strTo (hi:=24) rfl Y9 rfl rfl rfl (by rw[BE];decide)) ?_;refine tq (PV.strEql (a:=(gG (gy .new (ld []))).take 24) (b:=[109,97,99,104,105,110,101,32,48,32,117,112,32,49,32,48,32,48,32,49,32,50,10,109]) rfl rfl rfl) ?_;refine ao ?_ ?_<;>intro h9;refine P2 ?_;refine CR Jj (jU 0) ID λvR HR hR=>?_
 obtain⟨hv,rfl⟩:=hR;rw[show Iq 0=true by decide]at hv;subst hv;refine P2 ?_;exact nx J3 (ai (WK [] (av rfl rfl ⟨rfl,rfl⟩)))
 · exact absurd IC h9
theorem CH(x:Value)(l:List OpT)(hn:l.length≤100000)(hok: ∀o∈l,OkOp o):
 DT 9 #[x] (IsL 11 (EF OpT.flat) x l) [] (dm (λv H=>∃c:Nat,v= .pointer (some ⟨c,0,none⟩)∧H=[fY c (gy .new l)])):=by
 refine BD 18 Tryz.func9 rfl rfl rfl λw0 F hF=>sr λ_ J1=>PS ?_
 refine nx J1 (sr λ_ J2=>CR Ot (zl) ID λvR HR hR=>?_);obtain⟨c,rfl,rfl⟩:=hR;refine PS ?_;refine nx J2 (ab λ_ J3=>sr λ_ J4=>PS ?_);refine tp (df rfl Kq rfl hF.len) ?_;refine PS ?_;refine nx J4 (au ?_)
 refine bn (α:=(Nat)) (λk=>k≤l.length) (λk=>[(2,(.pointer none)),(3,(.pointer (some ⟨c,0,none⟩))),(7,x),(8,(.int .i64 (((l.length:Nat):Int)))),(9,(.int .i64 (((k:Nat):Int))))]) (λk=>[fY c (gy .new (l.take k))]) (λk=>l.length-k) 0
  (aM _) SB
  (λ_ s=>s) (λk hinv=>?_)
 obtain hk:=hinv;refine sr λ_ J5=>PS ?_
 refine ao ?_ ?_<;>intro h10;obtain⟨b_e,off_e,cap_e,cs_e,T_e,z_e,us_e,hv_e,hc_e,hb_e,hl_e,hs_e,hE_e⟩:=IsL.at hF (j:=k) (by omega);have hkl:k<l.length:=by omega
 obtain⟨o,ho⟩: ∃o,o=l[k]:=⟨_,rfl⟩;replace hE_e:us_e=ints l[k].flat:=hE_e;rw[←ho]at hE_e;have hoo:OkOp o:=ho▸hok _ (cH ..);have hck:CLOk l.length (gy .new (l.take k)):=(Av (l.take k) new_ok (λo ho=>hok o (ey ho))).more (by rw[bh];omega);refine nx J5 (ab λ_ J6=>CY (qx J6 (ab λ_ J7=>au (sr λ_ J8=>tp (bd (r:=off_e+k*11) hv_e rfl Kq qT rfl rfl (by omega) (by omega) (by omega)) ?_))));refine tp (sj (vs:=ints o.flat) rfl ff rfl qT rfl (iG hb_e (λ_ h=>eb h)) (gg _) (hs_e.trans hE_e)) ?_;refine XZ PG (ints OpT.zero.flat) λb5=>?_
 refine SW 0 qT gg ?_;refine nx J8 (ad (PS ?_));refine LW 0 ff qT gg ?_;refine CE Oj (Da (c:=c) (a:=gy .new (l.take k)) (o:=o) hck (by omega) hoo) (SM [1]) ?_;refine ap (ag (ac J7 (ad (AD ?_))));refine PS ?_;refine ap ?_
 exact aI ((k+1):(Nat)) (by omega) (by show l.length- (k+1)<l.length-k;omega)
  SB
  (λ_ s=>by rw[tQ .new l hkl,←ho];exact ak [0] rfl s)
 refine nx J5 (ab λ_ J9=>CN (aX (aA (aA (bl (ac J3 (sr λ_ J10=>P2 ?_)))))));exact nx J10 (ai (aE (H':=[fY c (gy .new l)]) (db _) (λ_ s=>by rw[show k=l.length by omega,dC]at s;exact s) (av rfl rfl ⟨c,rfl,rfl⟩)))
end Go.Proofs.YtfocodjhmkokpaaGreatDoor
end

section
namespace Leg
open Go
section
variable {P:Program} {n:Nat} {D:List Deferred} {L:List (Nat×Value)} {S:World→Prop} {o:Oper}
theorem PV.strAt{t:TypeId}{x y:Operand}{bs:List UInt8}{k:IntKind}{i:Int}{j:Nat}(ho:o.op= .index t x y)(ht:P.underlying t=some .string)(hx:cB L x=some (lH bs))(hy:cB L y=some (.int k i))(hi:i=(j:Int))(hj:j<bs.length):PV P n D L S o (.int .u8 (((bs.getD j 0).toNat:Nat):Int)):=λb w g _=>by
 subst hi;have hs:=sH bs;have h2:j< (⟨bs.toArray⟩:ByteArray).size:=by rw[hs];exact hj
 have hr:=run_index_string (P:=P) w t ⟨bs.toArray⟩ k (j:Int) ht;rw[dif_pos ⟨by omega,by omega⟩]at hr
 have e:((⟨bs.toArray⟩:ByteArray)[((j:Nat):Int).toNat]'(by simpa using h2))=bs.getD j 0:=by
  simp[ByteArray.getElem_eq_getElem_data,List.getD_eq_getElem?_getD,hj]
 rw[e]at hr;simp[execOp,ho,g.eval hx,g.eval hy,hr]
end
end Leg
end

section
namespace Go.Proofs.YtfocodjhmkokpaaGreatDoor
open Go Leg Codec Api Dsk Wal
def cnt(l:List UInt8):Nat:=l.countP λb=>decide (b.toNat=10)
theorem jA(a b:List UInt8):cnt (a++b)=cnt a+cnt b:=List.countP_append
theorem NA(l:List UInt8):cnt l≤l.length:=List.countP_le_length
theorem Dq(b:UInt8)(l:List UInt8):cnt (b::l)=(if b.toNat=10 then 1 else 0)+cnt l:=by
 unfold cnt;rw[List.countP_cons]
 by_cases h:b.toNat=10<;>simp[h,jr]
theorem Dm(l:List UInt8){k:Nat}(h:k<l.length):cnt (l.take (k+1))=cnt (l.take k)+(if(((l.getD k 0).toNat:Nat):Int)=10 then 1 else 0):=by
 rw[br h,jA,Dq];have e:l.getD k 0=l[k]:=by simp[List.getD_eq_getElem?_getD,h]
 rw[e];have:cnt []=0:=rfl
 by_cases q:l[k].toNat=10
 · rw[if_pos q,if_pos (by omega)];omega
 · rw[if_neg q,if_neg (by omega)];omega
theorem JZ{l:List UInt8}(h: ∀b∈l,b.toNat≠10):cnt l=0:=by
 unfold cnt;rw[List.countP_eq_zero];intro b hb
 simpa using h b hb
theorem zB: ∀k:Fin 10,(UInt8.ofNat (48+k.val)).toNat≠10:=by decide
theorem JT(u:Nat): ∀b∈Lib.decDigits u,b.toNat≠10:=by
 induction u using Nat.strongRecOn with
 |ind u ih=>
  intro b hb;rw[Lib.decDigits]at hb;split at hb
  · rename_i h
    obtain rfl:=cG.1 hb;exact zB ⟨u,h⟩
  · rcases ci.1 hb with hb|hb
    · exact ih _ (by omega) b hb
    · obtain rfl:=cG.1 hb
      exact zB ⟨u%10,Nat.mod_lt _ (by decide)⟩
theorem Lu(n:Int): ∀b∈Lib.itoa n,b.toNat≠10:=by
 unfold Lib.itoa;split
 · intro b hb
   rcases bJ.1 hb with rfl|hb
   · decide
   · exact JT _ b hb
 · exact JT _
theorem xO(n:Int):cnt (Lib.itoa n)=0:=JZ (Lu n)
theorem Do: ∀l,cnt (lQ l)=0
 | []=>rfl
 |n::l=>by
  show cnt (32::Lib.itoa n++lQ l)=0;rw[jA,Dq,xO,Do l];rfl
theorem tj{ws:List UInt8}{l:List Int}(h:cnt ws=0):cnt (m9 ws l)=1:=by
 unfold m9;rw[jA,jA,h,Do];rfl
theorem LN(r:ReplyT):cnt (G4 r)=1:=tj rfl
theorem Dn: ∀l,cnt (fJ l)=l.length
 | []=>rfl
 |r::l=>by
  show cnt (G4 r++fJ l)=_;rw[jA,LN,Dn l,am,jr]
theorem Kb(i:Nat):cnt (DV i)=1:=tj (by rw[jA,jA,xO];rfl)
theorem Nz(i:Nat)(s:MS LD):cnt (uD i s)=1:=tj (by rw[jA,jA,xO];rfl)
theorem Ka(a:CL)(i:Nat):cnt (xw a i)=1:=by
 unfold xw;split
 · split
   · exact Nz ..
   · exact Kb _
 · exact Kb _
def Aw(a:CL):Nat→Nat
 |0=>0
 |i+1=>Aw a i+(a.at' i).reps.length
theorem FW{n:Nat}{a:CL}(h:TOk n a): ∀{i:Nat},i≤5→Aw a i≤i*n
 |0,_=>aM _
 |i+1,hi=>by
  have h1:=FW h (i:=i) (by omega);have h2:=h.reps (i:=i) (by omega);rw[Aw,Ku];omega
theorem G2{n:Nat}{a:CL}(h:TOk n a){i:Nat}(hi:i≤5):Aw a i≤5*n:=ml (FW h hi) (fN _ hi)
theorem zD(a:CL): ∀i,cnt (ji a i)=i+Aw a i
 |0=>rfl
 |i+1=>by
  rw[qe,jA,zD a i,lU,jA,Ka,Dn,Aw];omega
theorem Dp(a:CL): ∀k,cnt (oq a k)=k
 |0=>rfl
 |k+1=>by rw[o9,jA,Dp a k,Dg,tj rfl]
theorem J0(a:CL):cnt (gG a)=9+Aw a 5:=by
 rw[gG,jA,zD,Dp];omega
theorem wk(x:Value)(l:List OpT)(hok: ∀o∈l,OkOp o):
 DT 5 #[x] (λF=>IsL 11 (EF OpT.flat) x l F∧TabR F) [] (RI (.bool true) []):=by
 refine BD 43 Tryz.func5 rfl rfl rfl λw0 F hF=>sr λ_ J1=>PS ?_
 refine nx J1 (ab λ_ J2=>sr λ_ J3=>CF QS (Fe) ID (λ_ d _=>iV hF.2 d) ?_);refine PS ?_;refine nx J3 (CN (qx J2 (ab λ_ J4=>sr λ_ J5=>PS ?_)));refine CF QR (EU x l) ID (λ_ d _=>IsL.more EF.more hF.1 d) ?_;refine ao ?_ ?_<;>intro h12;refine PS ?_;refine nx J5 (CN (qx J4 (sr λ_ J6=>PS ?_)));refine CQ QP (CH x l (by omega) hok) ID (λ_ d _=>IsL.more EF.more hF.1 d) λvR HR hR=>?_
 obtain⟨c,rfl,rfl⟩:=hR;refine PS ?_;refine nx J6 (sr λ_ J7=>PS ?_);have htk:=FN l hok (by omega);have hcl:=htk.ok;have htl:=y3 htk (by omega);refine CF Ov (pV c (gy .new l) l.length htk (by omega)) ID (λ_ d _=>iV hF.2 d) ?_;refine PS ?_;refine nx J7 (sr λ_ J8=>PS ?_);refine nx J8 (ab λ_ J9=>sr λ_ J10=>PS ?_);refine tp (QL rfl Y9 rfl) ?_;refine PS ?_;refine nx J10 (au ?_)
 refine bn (α:=(Nat)) (λk=>k≤(gG (gy .new l)).length) (λk=>[(2,(.bool false)),(3,(.pointer (some ⟨c,0,none⟩))),(4,(lH (gG (gy .new l)))),(5,(.int .i64 (((cnt ((gG (gy .new l)).take k):Nat):Int)))),(19,(.int .i64 ((((gG (gy .new l)).length:Nat):Int)))),(20,(.int .i64 (((k:Nat):Int))))]) (λk=>[fY c (gy .new l)]) (λk=>(gG (gy .new l)).length-k) 0
  (aM _) SB
  (λ_ s=>s) (λk hinv=>?_)
 obtain hk:=hinv;have hcl10:=NA ((gG (gy .new l)).take k);rw[bh]at hcl10;refine sr λ_ J11=>PS ?_
 refine ao ?_ ?_<;>intro h21;refine nx J11 (ab λ_ J12=>CY (qx J12 (ab λ_ J13=>au (sr λ_ J14=>P2 ?_))));refine nx J14 (sr λ_ J15=>P2 ?_);refine tp (PV.strAt (j:=k) rfl Y9 rfl rfl rfl (by omega)) ?_;refine PS ?_;refine ao ?_ ?_<;>intro h26;refine nx J15 (CY (ad (PS ?_)));refine AD ?_;refine PS ?_;refine ap (ag (ac J13 (ad (AD ?_))));refine PS ?_;refine ap ?_
 exact aI ((k+1):(Nat)) (by omega) (by show(gG (gy .new l)).length- (k+1)< (gG (gy .new l)).length-k;omega)
  (aK (aK (aK (bA rfl (by rw[Dm (gG (gy .new l)) (by omega),if_pos h26];simp) SB))))
  (λ_ s=>s)
 refine nx J15 (CN (aT (ag (ac J13 (ad (AD ?_))))));refine PS ?_;refine ap ?_
 exact aI ((k+1):(Nat)) (by omega) (by show(gG (gy .new l)).length- (k+1)< (gG (gy .new l)).length-k;omega)
  (aK (aK (aK (bA rfl (by rw[Dm (gG (gy .new l)) (by omega),if_neg h26];simp) SB))))
  (λ_ s=>s)
 refine nx J11 (ab λ_ J16=>CN (aX (aA (aA (bl (ac J9 (sr λ_ J17=>?_)))))));obtain rfl:k=(gG (gy .new l)).length:=by omega
 refine QJ (H':=λg:CX=>[bq c (gy .new l) g]) (λ_ s=>H7 s) (λg=>PS ?_);refine nx J17 (ab λ_ J18=>sr λ_ J19=>PS ?_);refine nx J19 (au ?_)
 refine bn (α:=(Nat)) (λi=>i≤5) (λi=>[(2,(.bool false)),(3,(.pointer (some ⟨c,0,none⟩))),(5,(.int .i64 (((cnt ((gG (gy .new l)).take (gG (gy .new l)).length):Nat):Int)))),(7,(.int .i64 (((9+Aw (gy .new l) i:Nat):Int)))),(30,(.int .i64 (((i:Nat):Int))))]) (λi=>[bq c (gy .new l) g]) (λi=>5-i) 0
  (aM _) SB
  (λ_ s=>s) (λi hinv=>?_)
 obtain hi:=hinv;have hrs:=G2 htk (i:=i) (by omega);refine sr λ_ J20=>PS ?_
 refine ao ?_ ?_<;>intro h31;refine nx J20 (ab λ_ J21=>CY (qx J21 (ab λ_ J22=>au (sr λ_ J23=>P2 ?_))));refine nx J23 (ad (P3 ?_));refine CR HC (oS (i:=i) hcl (by omega) (by omega)) ID λvR HR hR=>?_
 obtain⟨_,h1ur,rfl,rfl⟩:=hR;revert vR;intro ur h1ur;refine gT 1 rfl rfl (λhlr _=>?_);have hrn:=htk.reps (i:=i) (by omega);refine tp (df rfl DI rfl hlr) ?_;refine AD ?_;refine PS ?_;refine ap (ag (ac J22 (ad (AD ?_))));refine PS ?_;refine ap ?_
 exact aI ((i+1):(Nat)) (by omega) (by show 5- (i+1)<5-i;omega)
  (aK (aK (aK (bA rfl (by simp only[Aw];congr 1;omega) SB))))
  (λ_ s=>ak [0] rfl s)
 refine nx J20 (ab λ_ J24=>CN (aX (aA (aA (bl (ac J18 (sr λ_ J25=>P4 ?_)))))));refine nx J25 (ai (WK [] (av rfl rfl ?_)));exact⟨by rw[show i=5 by omega,dC,J0];simp,rfl⟩;refine PS ?_;refine nx J5 (CY (sr λ_ J26=>PS ?_));refine nx J26 (ai (af (WK [] (av rfl rfl ?_))));exact⟨by simp,rfl⟩
theorem tellLines_row(x:Value)(l:List OpT):DT 5 #[x] (λF=>IsL 11 (EW OpT.flat) x l F∧TabR F) [] (RI (.bool true) []):=λw F r m=>wk x l (M5 r.1) w F ⟨(MI r.1).1,r.2⟩ m
theorem MV:(Rows.laid_internal_strconv_uint64pow10:DataW Unit)=Lib.tabData .u64 Lib.pow10Tab:=by kernel_rfl
theorem tabL{W:World}(hL:laidMetH Tryz.prog Rows.tellRunsRow.laid W):TabR (hp W):=by
 have hL := (laidMetH_iff.1 hL).1;have h2 : laidMet Tryz.prog [("internal/strconv.uint64pow10", Rows.laid_internal_strconv_uint64pow10)] W := laidMet.tail (laidMet.tail hL);rw [MV] at h2;exact TabR.of (Lib.tabIs_of_head (g := 0) (by kernel_rfl) (by kernel_rfl) Tryz.underlying260 L2 (by kernel_rfl) (by kernel_rfl) h2)
end Go.Proofs.YtfocodjhmkokpaaGreatDoor
end
