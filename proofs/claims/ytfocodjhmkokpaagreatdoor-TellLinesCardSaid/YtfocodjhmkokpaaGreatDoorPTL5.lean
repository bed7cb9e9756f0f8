/-
  Joined texts:what a statement's proof reaches.
-/
import Derived.Shelf.Strconv.Itoa3
import Derived.Test.YtfocodjhmkokpaaGreatDoorProg
import Derived.Lib.ItoaLen
import Derived.Conc.LoneCalls
import Derived.Conc.LoneSelectN
import Derived.Test.YtfocodjhmkokpaaGreatDoorPTL4
set_option maxHeartbeats 8000000
set_option maxRecDepth 100000
set_option linter.unusedSimpArgs false
set_option linter.unusedVariables false
section
namespace Go.Proofs.YtfocodjhmkokpaaGreatDoor
open Go Leg Codec Api Dsk Wal
theorem E4(x:Value)(l:List Int)(v:Int)(hl:l.length≤1000000):
    DT 181 #[x,(.int .i64 (v))] (IsI .i64 x l) [] (dm (λr' H=>∃n:Int,r'= .int .i64 n∧(decide (n≥0)=true↔v∈l)∧H=[])):=by
 refine BD 19 Tryz.func181 rfl rfl rfl λw0 F hF=>sr λ_ J1=>PS ?_
 refine nx J1 (ab λ_ J2=>sr λ_ J3=>PS ?_);refine tp (df rfl iO rfl hF.len) ?_;refine PS ?_;refine nx J3 (au ?_)
 refine bn (α:=(Nat)) (λk=>k≤l.length∧∀(j:Nat),j<k→l.getD j 0≠v) (λk=>[(0,x),(1,(.int .i64 (v))),(7,(.int .i64 (((l.length:Nat):Int)))),(8,(.int .i64 (((k:Nat):Int))))]) (λk=>[]) (λk=>l.length-k) 0
     ⟨aM _,λj h=>absurd h (by omega)⟩ SB
     (λ_ s=>s) (λk hinv=>?_)
 obtain⟨hk,hv⟩:=hinv;refine sr λ_ J4=>PS ?_
 refine ao ?_ ?_<;>intro h9;obtain⟨b_a,off_a,cap_a,cs_a,T_a,z_a,hv_a,hb_a,hcs_a,hcp_a⟩:=IsI.at hF (j:=k) (by omega);refine nx J4 (ab λ_ J5=>CY (qx J5 (ab λ_ J6=>au (sr λ_ J7=>P2 ?_))));refine nx J7 (sr λ_ J8=>P3 ?_);refine tp (bd (r:=off_a+k) hv_a rfl iO aR rfl rfl (by omega) (by omega) (by omega)) ?_;refine tp (ca (v:=(.int .i64 ((l.getD k 0)))) rfl Y3 rfl rfl (iG hb_a (λ_ h=>eb h)) hcs_a) ?_;refine PS ?_;refine ao ?_ ?_<;>intro h16;refine nx J8 (CY (sr λ_ J9=>P2 ?_));refine nx J9 (ai (aH (af (af (aH (af (WK [] (av rfl rfl ?_))))))));exact⟨((k:Nat):Int),rfl,by rw[decide_eq_true_iff];exact⟨λ_=>by rw[h16,List.getD_eq_getElem?_getD,List.getElem?_eq_getElem (by omega)];exact cH _,λ_=>by omega⟩,rfl⟩;refine nx J8 (CN (aT (ag (ac J6 (ad (AD ?_))))));refine PS ?_;refine ap ?_
 exact aI ((k+1):(Nat)) ⟨by omega,λj hj=>by
        by_cases q:j=k
        · subst q;exact λe=>h16 e.symm
        · exact hv j (by omega)⟩ (by show l.length- (k+1)<l.length-k;omega)
   SB
   (λ_ s=>s)
 refine nx J4 (ab λ_ J10=>CN (aX (aA (aA (bl (ac J2 (sr λ_ J11=>PS ?_)))))));refine nx J11 (ai (WK [] (av rfl rfl ?_)))
 exact⟨-1,rfl,by
      rw[decide_eq_true_iff];constructor
      · intro h;omega
      · intro h
        obtain⟨j,hj,e⟩:=eO h;have:=hv j (by omega);rw[List.getD_eq_getElem?_getD,List.getElem?_eq_getElem hj]at this
        exact absurd e this,rfl⟩
theorem re(x:Value)(l:List Int)(v:Int)(hl:l.length≤1000000):
 DT 158 #[x,(.int .i64 (v))] (IsI .i64 x l) [] (RI (.bool (decide (v∈l))) []):=by
 refine BD 9 Tryz.func158 rfl rfl rfl λw0 F hF=>sr λ_ J1=>PS ?_
 refine nx J1 (sr λ_ J2=>P2 ?_);refine CQ Ow (E4 x l v hl) ID (λ_ d _=>IsI.more hF d) λvR HR hR=>?_
 obtain⟨n,rfl,hn,rfl⟩:=hR;refine P2 ?_;refine nx J2 (ai (WK [] (av rfl rfl ?_)));exact⟨congrArg Value.bool (by rw[NO,hn,decide_eq_true_iff]),rfl⟩
theorem rm(t c:Nat)(A v:Value)(bs ys:List UInt8)(hA:A= .pointer none∨A= .pointer (some ⟨t,1,none⟩))(hv:v.oneCell'=true)(hb:bs.length+ys.length≤1000000):DT 64 #[.pointer (some ⟨t,1,none⟩),lH ys] T0 [ah t [.pointer (some ⟨c,0,none⟩),A,v] 102,ce v bs 5] (dm (λ_ H=>∃v',v'.oneCell'=true∧H=[ah t [.pointer (some ⟨c,0,none⟩), .pointer (some ⟨t,1,none⟩),v'] 102,ce v' (bs++ys) 5])):=by
 rcases hA with rfl|rfl
 · exact Bu t c v bs ys hv hb
 · exact Bt t c v bs ys hv hb
def Lz(n:Int):List UInt8:=Qs n.toNat
def Jf(l:List Int):List UInt8:=l.flatMap λn=>32::Lz n
def Ge(ws:List UInt8)(l:List Int):List UInt8:=ws++Jf l++[10]
end Go.Proofs.YtfocodjhmkokpaaGreatDoor
end

section
namespace Go.Proofs
open Go.Shelf
def Tryz.laysItoa_ren:Go.Shelf.Ren:=⟨fun|171=>63|243=>101|246=>137|283=>166|284=>167|285=>168|286=>169|129=>186|317=>185|318=>187|319=>188|320=>189|337=>193|338=>194|n=>n,fun|3=>3|9=>9|2=>2|4=>4|171=>236|0=>0|53=>237|37=>53|5=>5|173=>240|212=>260|51=>254|20=>20|213=>261|46=>109|232=>266|233=>173|n=>n,fun|17=>0|18=>1|19=>2|n=>n⟩
theorem Tryz.laysItoa:Go.Proofs.LaysM.n171 Tryz.prog Tryz.laysItoa_ren:= {
 mixed:=by kernel_rfl
 f129:=Tryz.func186.trans (congrArg some (by kernel_rfl))
 f171:=Tryz.func63.trans (congrArg some (by kernel_rfl))
 f243:=Tryz.func101.trans (congrArg some (by kernel_rfl))
 f246:=Tryz.func137.trans (congrArg some (by kernel_rfl))
 f283:=Tryz.func166.trans (congrArg some (by kernel_rfl))
 f284:=Tryz.func167.trans (congrArg some (by kernel_rfl))
 f285:=Tryz.func168.trans (congrArg some (by kernel_rfl))
 f286:=Tryz.func169.trans (congrArg some (by kernel_rfl))
 f317:=Tryz.func185.trans (congrArg some (by kernel_rfl))
 f318:=Tryz.func187.trans (congrArg some (by kernel_rfl))
 f319:=Tryz.func188.trans (congrArg some (by kernel_rfl))
 f320:=Tryz.func189.trans (congrArg some (by kernel_rfl))
 f337:=Tryz.func193.trans (congrArg some (by kernel_rfl))
 f338:=Tryz.func194.trans (congrArg some (by kernel_rfl))
 t0:=Tryz.underlying0
 a0:=Tryz.isAgg0
 z0:=Tryz.sizeOf0
 v0:=Tryz.zeroValue0
 t2:=Tryz.underlying2
 a2:=Tryz.isAgg2
 z2:=Tryz.sizeOf2
 v2:=Tryz.zeroValue2
 t3:=Tryz.underlying3
 a3:=Tryz.isAgg3
 z3:=Tryz.sizeOf3
 v3:=Tryz.zeroValue3
 t4:=Tryz.underlying4
 a4:=Tryz.isAgg4
 z4:=Tryz.sizeOf4
 v4:=Tryz.zeroValue4
 t5:=Tryz.underlying5
 a5:=Tryz.isAgg5
 z5:=Tryz.sizeOf5
 v5:=Tryz.zeroValue5
 t9:=Tryz.underlying9
 a9:=Tryz.isAgg9
 z9:=Tryz.sizeOf9
 v9:=Tryz.zeroValue9
 t20:=Tryz.underlying20
 a20:=Tryz.isAgg20
 z20:=Tryz.sizeOf20
 v20:=Tryz.zeroValue20
 t37:=Tryz.underlying53
 a37:=Tryz.isAgg53
 z37:=Tryz.sizeOf53
 v37:=Tryz.zeroValue53
 t46:=Tryz.underlying109
 a46:=Tryz.isAgg109
 z46:=Tryz.sizeOf109
 v46:=Tryz.zeroValue109
 t51:=Tryz.underlying254
 a51:=Tryz.isAgg254
 z51:=Tryz.sizeOf254
 v51:=Tryz.zeroValue254
 t53:=Tryz.underlying237
 a53:=Tryz.isAgg237
 z53:=Tryz.sizeOf237
 v53:=Tryz.zeroValue237
 t171:=Tryz.underlying236
 a171:=Tryz.isAgg236
 z171:=Tryz.sizeOf236
 v171:=Tryz.zeroValue236
 t173:=Tryz.underlying240
 a173:=Tryz.isAgg240
 z173:=Tryz.sizeOf240
 v173:=Tryz.zeroValue240
 t212:=Tryz.underlying260
 a212:=Tryz.isAgg260
 z212:=Tryz.sizeOf260
 v212:=Tryz.zeroValue260
 t213:=Tryz.underlying261
 a213:=Tryz.isAgg261
 z213:=Tryz.sizeOf261
 t232:=Tryz.underlying266
 a232:=Tryz.isAgg266
 z232:=Tryz.sizeOf266
 v232:=Tryz.zeroValue266
 t233:=Tryz.underlying173
 a233:=Tryz.isAgg173
 z233:=Tryz.sizeOf173
 v233:=Tryz.zeroValue173
 g17:=by kernel_rfl
 g18:=by kernel_rfl
 g19:=by kernel_rfl
 i0:=by kernel_rfl
 i2:=by kernel_rfl
 i3:=by kernel_rfl
 i4:=by kernel_rfl
 i5:=by kernel_rfl
 i9:=by kernel_rfl
 i20:=by kernel_rfl
 i37:=by kernel_rfl
 i46:=by kernel_rfl
 i51:=by kernel_rfl
 i53:=by kernel_rfl
 i171:=by kernel_rfl
 i173:=by kernel_rfl
 i212:=by kernel_rfl
 i232:=by kernel_rfl
 i233:=by kernel_rfl
 m17:=by kernel_rfl
 m18:=by kernel_rfl
 m19:=by kernel_rfl}
end Go.Proofs
end

section
namespace Leg
open Go
def JD(g F:Hl):Hl:=λb=>if(F b).isSome then none else g b
theorem Lr(g F:Hl):Dj (JD g F) F:=λb=>by
 unfold JD;cases hF:F b with
 |some o=>exact .inl rfl
 |none=>exact .inr rfl
theorem Lq{g F:Hl}(h:Le F g):g=jn (JD g F) F:=by
 funext b
 unfold jn JD;cases hF:F b with
 |some o=>rw[h b o hF];rfl
 |none=>
  show g b=match g b with|some o=>some o|none=>none
  cases g b<;>rfl
theorem Does.grown{P:Program}{f:FuncId}{args:Array Value}{R:Hl→Prop}{v:Value}
 (h: ∀w F,R F→(∀b o,F b=some o→w.heap[b]?=some o)→Calls P f args w λe w'=>e= .returned v∧∃k os,w'=Sort.grow (w.drewN k) os):
 Does P f args R [] (dm λr H=>r=v∧H=[]):=λw F r m=>by
 refine(h w F r λb o e=>m.frame e).mono ?_
 rintro e w' ⟨rfl,k,os,rfl⟩
 have h0:(w.drewN k).heap=w.heap:=by simp[World.drewN]
 have h1:(Sort.grow (w.drewN k) os).heap=w.heap++os:=by show(w.drewN k).heap++os=_;rw[h0]
 have hh:Le F (hp (Sort.grow (w.drewN k) os)):=λb o e=>by
  have h2:=m.frame e;obtain⟨h3,_⟩:=Array.getElem?_eq_some_iff.1 h2;show(Sort.grow (w.drewN k) os).heap[b]?=some o;rw[h1,Array.getElem?_append_left h3];exact h2
 exact⟨⟨rfl,rfl,rfl,by rw[h1,Array.size_append];omega⟩,[],⟨JD (hp (Sort.grow (w.drewN k) os)) F,Lr _ _,Lq hh,trivial⟩,rfl,rfl⟩
end Leg
namespace Go.Proofs.YtfocodjhmkokpaaGreatDoor
open Go Leg
def TabR (F : Hl) : Prop := ∀ w : World, (∀ b o, F b = some o → w.heap[b]? = some o) → Lib.TabIs Tryz.prog w "internal/strconv.uint64pow10" .u64 Lib.pow10Tab
theorem TabR.more{F g:Hl}(h:TabR F)(d:Dj g F):TabR (jn g F):=λw q=>h w λb o e=>q b o (Le.right d b o e)
abbrev iV:= @TabR.more
theorem TabR.of {w : World} (h : Lib.TabIs Tryz.prog w "internal/strconv.uint64pow10" .u64 Lib.pow10Tab) : TabR (hp w) := fun w' q => by
 unfold Lib.TabIs World.var? at h ⊢;cases hg : Tryz.prog.globalNamed "internal/strconv.uint64pow10" with
 |none=>rw[hg]at h;cases h
 |some g=>
  rw[hg]at h;simp only[Option.bind_some]at h ⊢;cases ho:w.heap[g]?with
  |none=>rw[ho]at h;cases h
  |some o=>rw[q g o ho];rw[ho]at h;exact h
def yV(n:Int):Prop:= -9223372036854775808≤n∧n≤9223372036854775807
theorem xq(n:Int)(h:yV n):DT 63 #[.int .i64 n] TabR [] (RI (lH (Lib.itoa n)) []):=
 Does.grown λw F r q=>Any.strconv_Itoa Tryz.laysItoa n h.1 h.2 w (r w q)
theorem vK{n:Int}(h:yV n):(Lib.itoa n).length≤21:=Lib.itoa_length_le n h.1 h.2
def lQ(l:List Int):List UInt8:=l.flatMap λn=>32::Lib.itoa n
def m9(ws:List UInt8)(l:List Int):List UInt8:=ws++lQ l++[10]
def All64(l:List Int):Prop:=∀n∈l,yV n
theorem ua: ∀l,All64 l→(lQ l).length≤22*l.length
 | [],_=>aL _
 |n::l,h=>by
  have h1:=ua l λm hm=>h m (gN _ hm)
  have h2:=Lib.itoa_length_le n (h n (eC ..)).1 (h n (eC ..)).2;show(32::Lib.itoa n++lQ l).length≤_;simp only[ae,am]at h1 h2 ⊢;omega
theorem All64.take{l:List Int}(h:All64 l)(k:Nat):All64 (l.take k):=λn hn=>h n (ey hn)
theorem EE(l:List Int){k:Nat}(h:k<l.length):lQ (l.take (k+1))=lQ (l.take k)++([32]++Lib.itoa (l.getD k 0)):=by
 unfold lQ;rw[br h,ri];simp[List.getD_eq_getElem?_getD,h]
theorem qN{ws:List UInt8}{l:List Int}(h:All64 l):(m9 ws l).length≤ws.length+22*l.length+1:=by
 have:=ua l h;unfold m9;simp only[ae,am,aw];omega
theorem MG{l:List Int}{k:Nat}(h:k<l.length):l.getD k 0∈l:=by
 rw[List.getD_eq_getElem?_getD,List.getElem?_eq_getElem h];exact cH h
open Codec Api Dsk Wal
theorem kj(t c:Nat)(A v x:Value)(bs ws:List UInt8)(l:List Int)(hA:A= .pointer none∨A= .pointer (some ⟨t,1,none⟩))(hv:v.oneCell'=true)(hd:All64 l)(hb:bs.length+ws.length+22*l.length+1≤1000000):
 DT 39 #[(.pointer (some ⟨t,0,none⟩)),(lH (ws)),x] (λF=>IsI .i64 x l F∧TabR F) [ah t [(.pointer (some ⟨c,0,none⟩)),A,v] 102,ce v (bs) 5] (dm (λ_ H=>∃v',v'.oneCell'=true∧H=[ah t [(.pointer (some ⟨c,0,none⟩)),(.pointer (some ⟨t,1,none⟩)),v'] 102,ce v' (bs++m9 ws l) 5])):=by
 refine BD 31 Tryz.func39 rfl rfl rfl λw0 F hF=>?_
 have hI:=hF.1;have hT:=hF.2;refine sr λ_ J1=>P2 ?_
 refine FA 1 DK wt ?_;refine PS ?_;refine CR Ni (rm t c A v (bs) (ws) hA hv (by first|omega| (simp only[ae,am,aw];omega))) ID λvR HR hR=>?_
 obtain⟨w1,hw1,rfl⟩:=hR;refine nx J1 (ab λ_ J2=>sr λ_ J3=>PS ?_);refine tp (df rfl iO rfl hI.len) ?_;refine PS ?_;refine nx J3 (au ?_)
 refine bn (α:=(Nat)×(Value)) (λ⟨k,v2⟩=>k≤l.length∧v2.oneCell'=true) (λ⟨k,v2⟩=>[(0,(.pointer (some ⟨t,0,none⟩))),(13,x),(14,(.int .i64 (((l.length:Nat):Int)))),(15,(.int .i64 (((k:Nat):Int))))]) (λ⟨k,v2⟩=>[ah t [(.pointer (some ⟨c,0,none⟩)),(.pointer (some ⟨t,1,none⟩)),v2] 102,ce v2 (bs++ws++lQ (l.take k)) 5]) (λ⟨k,v2⟩=>l.length-k) (0,w1)
  ⟨aM _,hw1⟩ SB
  (λ_ s=>by show bD [ah t [(.pointer (some ⟨c,0,none⟩)),(.pointer (some ⟨t,1,none⟩)),w1] 102,ce w1 (bs++ws++lQ (l.take 0)) 5] _;rw[show bs++ws++lQ (l.take 0)=bs++ws from aP _];exact s) (λ⟨k,v2⟩ hinv=>?_)
 obtain⟨hk,hv2⟩:=hinv;have hnl:=ua (l.take k) (hd.take k);rw[bh]at hnl;refine sr λ_ J4=>PS ?_
 refine ao ?_ ?_<;>intro h16;have hkl:k<l.length:=by omega
 obtain⟨b_a,off_a,cap_a,cs_a,T_a,z_a,hv_a,hb_a,hcs_a,hcp_a⟩:=IsI.at hI (j:=k) (by omega);refine nx J4 (ab λ_ J5=>CY (qx J5 (ab λ_ J6=>au (sr λ_ J7=>tp (bd (r:=off_a+k) hv_a rfl iO aR rfl rfl (by omega) (by omega) (by omega)) ?_))));refine tp (ca (v:=(.int .i64 ((l.getD k 0)))) rfl Y3 rfl rfl (iG hb_a (λ_ h=>eb h)) hcs_a) ?_;refine PS ?_;refine nx J7 (D0 dp ?_);refine PD 0 ?_;refine PD 1 ?_;refine FD 2 1 DK wt ?_;refine PD 3 ?_;refine AL 4 ?_;refine CF Ob (xq (l.getD k 0) (hd _ (MG hkl))) ID (λ_ d _=>iV hT d) ?_;have hit:=vK (hd _ (MG hkl));refine EN (ta 5 rfl (L6 (a:=[32]) (b:=Lib.itoa (l.getD k 0)) rfl rfl rfl (by simp only[am,aw];omega)) ?_);refine AL 6 ?_;refine CR Ni (rm t c (.pointer (some ⟨t,1,none⟩)) v2 (bs++ws++lQ (l.take k)) ([32]++Lib.itoa (l.getD k 0)) (Or.inr rfl) hv2 (by first|omega| (simp only[ae,am,aw];omega))) ID λvR HR hR=>?_
 obtain⟨w2,hw2,rfl⟩:=hR;refine EN (DN (ag (ac J6 (ad (AD ?_)))));refine PS ?_;refine ap ?_
 exact aI ((k+1,w2):(Nat)×(Value)) ⟨by omega,hw2⟩ (by show l.length- (k+1)<l.length-k;omega)
  SB
  (λ_ s=>by show bD [ah t [(.pointer (some ⟨c,0,none⟩)),(.pointer (some ⟨t,1,none⟩)),w2] 102,ce w2 (bs++ws++lQ (l.take (k+1))) 5] _;rw[EE l (show k<l.length by omega),←aS];exact s)
 refine nx J4 (ab λ_ J8=>CN (aX (aA (aA (bl (ac J2 (ad (P2 ?_))))))));refine FA 1 DK wt ?_;refine CR Ni (rm t c (.pointer (some ⟨t,1,none⟩)) v2 (bs++ws++lQ (l.take k)) ([10]) (Or.inr rfl) hv2 (by first|omega| (simp only[ae,am,aw];omega))) ID λvR HR hR=>?_
 obtain⟨w2,hw2,rfl⟩:=hR;exact ap (aE (H':=[ah t [(.pointer (some ⟨c,0,none⟩)),(.pointer (some ⟨t,1,none⟩)),w2] 102,ce w2 (bs++m9 ws l) 5]) (db _) (λ_ s=>by rw[show bs++m9 ws l=bs++ws++lQ (l.take k)++[10]by rw[az (by omega)];simp[m9]];exact s) (bu rfl ⟨_,hw2,rfl⟩))
end Go.Proofs.YtfocodjhmkokpaaGreatDoor
end

section
namespace Api
open Go Leg Codec Dsk Wal
structure MS(δ:Type) where
 id:Int
 view:ViewT
 own:RowT
 mirror:MirT
 acc:AccT
 round:Int
 vote:Option VoteT
 book:BookT
 busy:Bool
 kept:Int
 waits:Int
 ops:Int
 replies:List ReplyT
 told:Vector Int 5
 last:Vector RowT 5
 e:δ
 o:List SaidT
structure Adr where
 lg:Nat
 vo:Value
 rs:Value
structure Dk(δ:Type) where
 pt:δ→List UInt8→δ×Int
 dn:δ→Bool
 ok:δ→Prop
 sure: ∀(e:δ) (bs:List UInt8),ok e→bs.length≤3000→ok (pt e bs).1
variable {δ:Type}
abbrev MS.rep(s:MS δ)(a:Adr):RepT:=⟨s.id, .pointer (some ⟨a.lg,0,none⟩),s.view,s.own,s.mirror,s.acc,s.round,a.vo,s.book,s.busy,s.kept,s.waits,s.ops,a.rs,s.told,s.last⟩
def MS.setView(s:MS δ)(v:ViewT):MS δ:= {s with view:=v}
def MS.setOwn(s:MS δ)(v:RowT):MS δ:= {s with own:=v}
def MS.setAcc(s:MS δ)(v:AccT):MS δ:= {s with acc:=v}
def MS.setRound(s:MS δ)(v:Int):MS δ:= {s with round:=v}
def MS.setBusy(s:MS δ)(v:Bool):MS δ:= {s with busy:=v}
def MS.setKept(s:MS δ)(v:Int):MS δ:= {s with kept:=v}
def MS.setWaits(s:MS δ)(v:Int):MS δ:= {s with waits:=v}
def MS.setOps(s:MS δ)(v:Int):MS δ:= {s with ops:=v}
def MS.setTold(s:MS δ)(v:Vector Int 5):MS δ:= {s with told:=v}
def MS.setLast(s:MS δ)(v:Vector RowT 5):MS δ:= {s with last:=v}
def Adr.nil:Adr:=⟨0, .pointer none, .slice none 0 0⟩
def da(w:Int):Int:=IntKind.i64.wrap (1*2^min w.toNat IntKind.i64.bits)
def CC(a b:BallotT):Bool:=if a.round≠b.round then decide (a.round<b.round)else decide (a.who<b.who)
def zQ(a:AccT)(ep:Int)(b:BallotT):Bool:=decide (ep≠a.epoch)||(decide (b.round<1)||CC b a.vow)
def bW(a:AccT)(ep:Int)(b:BallotT):AccT×Bool:=if zQ a ep b then(a,false)else({a with vow:=b},true)
def gC(a:AccT)(ep:Int)(b:BallotT)(c:ChangeT):AccT×Bool:=if zQ a ep b then(a,false)else({a with vow:=b,had:=b,change:=c},true)
def kw(bits:Int)(k:Nat):List Int:=((List.range k).filter λi:Nat=>Ie bits ((i:Nat):Int)).map λi:Nat=>((i:Nat):Int)
def px(bits:Int):List Int:=kw bits 5
def MF(part all:Int):Bool:=decide (2* (((px (qU .i64 part all)).length:Nat):Int)>(((px all).length:Nat):Int))
def gK(v:ViewT)(bits:Int):Bool:=MF bits v.members
def jy(v:ViewT)(b:BallotT)(c:ChangeT):VoteT:= {VoteT.zero with view:=v,ballot:=b,change:=c}
def nI(v:VoteT)(who:Int)(b:BallotT):Bool:=decide (b.flat=v.ballot.flat)&&iQ v.view who
def wh(v:VoteT)(who:Int)(had:BallotT)(c:ChangeT):VoteT:=
 if decide (0<had.round)&&CC v.best had then {v with vowed:=iI .i64 v.vowed (da who),best:=had,change:=c}else {v with vowed:=iI .i64 v.vowed (da who)}
def eQ(v:VoteT)(who:Int)(b had:BallotT)(c:ChangeT):VoteT×Bool:=
 if v.putting|| !nI v who b then(v,false)else({wh v who had c with putting:=gK v.view (iI .i64 v.vowed (da who))},gK v.view (iI .i64 v.vowed (da who)))
def gA(v:VoteT)(who:Int)(b:BallotT):VoteT×Bool:=
 if !v.putting|| !nI v who b then(v,false)else({v with took:=iI .i64 v.took (da who)},gK v.view (iI .i64 v.took (da who)))
def oN(x:RowT)(who v:Int)(l:Vector CellT 4):RowT:=if h:cM who=true then {x with heir:=x.heir.set who.toNat v (fm h),left:=x.left.set who.toNat l (fm h)}else x
def xm(x:RowT)(who:Int):Vector CellT 4:=if h:cM who=true then x.left[who.toNat]'(fm h)else RowT.zero.cells
def nD(who:Int)(dead:RowT)(x:RowT)(i:Nat):RowT:=if((i:Nat):Int)≠who∧0<fT dead ((i:Nat):Int)∧fT x ((i:Nat):Int)=0 then oN x ((i:Nat):Int) (fT dead ((i:Nat):Int)) (xm dead ((i:Nat):Int))else x
def ol(x:RowT)(who:Int)(dead:RowT)(k:Nat):RowT:=(List.range k).foldl (nD who dead) (oN x who (fQ (dead.version+1)) dead.cells)
def dU(x:RowT)(who:Int)(dead:RowT):RowT×Int:=
 if !cM who then(.zero,5)else if 0<fT x who then(.zero,8)else({ol x who dead 5 with version:=fQ ((ol x who dead 5).version+1)},0)
def rr(s:MS δ)(who:Int):Int:=if h:cM who=true then s.told[who.toNat]'(fm h)else 0
def nK(s:MS δ)(who:Int):RowT:=if h:cM who=true then s.last[who.toNat]'(fm h)else .zero
def B6{α:Type}(v:Vector α 5)(w:Int)(x:α):Vector α 5:=if h:cM w=true then v.set w.toNat x (fm h)else v
def lV(s:MS δ)(who:Int)(y:RowT):MS δ:= {s with last:=if rr s who=0∨(nK s who).version<y.version then B6 s.last who y else s.last}
def wi(s:MS δ)(from' who:Int)(y:RowT):MS δ:= {lV s who y with told:=B6 s.told who (iI .i64 (rr s who) (da from'))}
def wj(s:MS δ)(who w:Int):Bool:=decide ((rr s who).fdiv (2^min w.toNat IntKind.i64.bits)%2=1)
def C6(s:MS δ)(i:Nat):Bool:=decide (jJ s.view ((i:Nat):Int)=some s.id)&&decide (fT s.own ((i:Nat):Int)≤0)
def hO(s:MS δ)(k:Nat):List Int:=((List.range k).filter (C6 s)).map λi:Nat=>((i:Nat):Int)
def bI(s:MS δ):List Int:=hO s 5
def vH(s:MS δ):Bool:=(bI s).all λi=>(gV i).all λw=>wj s i w
def qi(s:MS δ)(l:List Int):RowT:=l.foldl (λx i=>if 0<fT x i then x else(dU x i (nK s i)).1) s.own
def ka(v:ViewT):MsgT:= {MsgT.zero with kind:=7,view:=v}
def oO(i:Int)(v:ViewT):MsgT:= {MsgT.zero with kind:=8,whose:=i,view:=v}
def fB(ep:Int)(b:BallotT):MsgT:= {MsgT.zero with kind:=3,epoch:=ep,ballot:=b}
def kT(ep:Int)(b had:BallotT)(c:ChangeT):MsgT:= {MsgT.zero with kind:=4,epoch:=ep,ballot:=b,had:=had,change:=c}
def je(ep:Int)(b:BallotT)(c:ChangeT):MsgT:= {MsgT.zero with kind:=5,epoch:=ep,ballot:=b,change:=c}
def jR(ep:Int)(b:BallotT):MsgT:= {MsgT.zero with kind:=6,epoch:=ep,ballot:=b}
def gZ(ep:Int)(b:BallotT):RecT:= {RecT.zero with kind:=3,epoch:=ep,ballot:=b}
def mx(ep:Int)(b:BallotT)(c:ChangeT):RecT:= {RecT.zero with kind:=4,epoch:=ep,ballot:=b,change:=c}
def dv(s:MS δ)(n:Int):MS δ:= {s with round:=n}
def lE(s:MS δ)(v:VoteT):MS δ:= {s with vote:=some v}
def xZ(s:MS δ)(a:AccT):MS δ:= {s with acc:=a}
variable (K:Dk δ)
def iP(s:MS δ)(l:List SaidT):MS δ:= {s with o:=if K.dn s.e then s.o else s.o++l}
def Es(s:MS δ)(to':Int)(m:MsgT):MS δ:=iP K s [⟨to',m⟩]
theorem p4(s:MS δ):iP K s []=s:=by
 unfold iP;rw[aP,ite_self]
theorem I0(s:MS δ)(a b:List SaidT):iP K (iP K s a) b=iP K s (a++b):=by
 unfold iP
 by_cases h:K.dn s.e=true<;>simp[h]
def nz(f:MS δ→MS δ)(s:MS δ)(to':Int)(m:MsgT):MS δ:=if to'=s.id then f s else Es K s to' m
def ej(s:MS δ)(r:RecT):MS δ:= {s with e:=(K.pt s.e (kn r)).1}
def sQ(s:MS δ)(r:RecT):Int:=(K.pt s.e (kn r)).2
def dw(s:MS δ)(op err val:Int):MS δ:= {s with replies:=s.replies++[⟨op,err,val⟩]}
def fp(s:MS δ):MS δ:=iP K s (pU (s.rep .nil))
def oa(id:Int)(m:MsgT)(p:Nat→Bool)(k:Nat):List SaidT:=((List.range k).filter λi:Nat=> !decide (((i:Nat):Int)=id)&&p i).map λi:Nat=>⟨((i:Nat):Int),m⟩
theorem iD(id:Int)(m:MsgT)(p:Nat→Bool)(k:Nat):oa id m p (k+1)=oa id m p k++(if((k:Nat):Int)≠id∧p k=true then [⟨((k:Nat):Int),m⟩]else []):=by
 unfold oa;rw[cZ,List.filter_append,cz]
 by_cases h:((k:Nat):Int)=id<;>by_cases h2:p k=true<;>simp[h,h2]
def mI(s:MS δ)(y:RowT):MS δ:=iP K s (oa s.id (sT s.id y) (λ_=>true) 5)
def nW(s:MS δ)(v:ViewT):MS δ:=iP K s (oa s.id (ka v) (λ_=>true) 5)
def uY(s:MS δ)(x:RowT)(op:Int):MS δ:= {s with own:=x,busy:=true,kept:=0,waits:=op}
def eS(s:MS δ)(x:RowT)(op:Int):MS δ×Int:=if sQ K s (kP x)≠0 then(ej K s (kP x),sQ K s (kP x))else(fp K (uY (ej K s (kP x)) x op),0)
def nd(s:MS δ):MS δ:=if s.busy||decide ((bI s).length=0)then s else if vH s then(eS K s (qi s (bI s)) 0).1 else s
def gP(s:MS δ):MS δ:= {s with busy:=false,book:=(fA s.book s.id s.own).1}
def mo(s:MS δ):MS δ:= {s with replies:=if 0<s.waits then s.replies++[⟨s.waits,0,0⟩]else s.replies,waits:=if 0<s.waits then 0 else s.waits}
theorem yX{s:MS δ}(h:0<s.waits):mo s= {dw s s.waits 0 0 with waits:=0}:=by unfold mo;rw[if_pos h,if_pos h];rfl
theorem yY{s:MS δ}(h: ¬0<s.waits):mo s=s:=by unfold mo;rw[if_neg h,if_neg h]
def lX(s:MS δ):MS δ:=nd K (mI K (mo (gP s)) s.own)
def lr(s:MS δ)(from' ver:Int):Bool:=s.busy&&(decide (ver=s.own.version)&&decide (from'∈gV s.id))
def xz(s:MS δ):Bool:=(gV s.id).all λw=> !Bk s.kept w
def iN(s:MS δ)(from':Int):MS δ:= {s with kept:=iI .i64 s.kept (da from')}
def dQ(s:MS δ)(from':Int)(m:MsgT):MS δ:=if lr s from' m.version then(if xz (iN s from')then lX K (iN s from')else iN s from')else s
def Gp(s:MS δ)(w:Int)(y:RowT):MS δ:= {s with book:=(fA s.book w y).1}
def iM(s:MS δ)(w:Int)(y:RowT):MS δ:= {s with mirror:=(mB s.mirror w y).1}
def ja(s:MS δ)(from':Int)(m:MsgT):MS δ:=
 if m.whose≠from'∨fe s.mirror m.whose=true then s
 else if lR s.mirror m.whose m.row then(if sQ K s (ki m.whose m.row)≠0 then ej K s (ki m.whose m.row)else Es K (iM (ej K s (ki m.whose m.row)) m.whose m.row) from' (s5 (dr (iM (ej K s (ki m.whose m.row)) m.whose m.row).mirror m.whose).version))
 else Es K s from' (s5 (dr s.mirror m.whose).version)
def gd(s:MS δ)(from':Int)(m:MsgT):MS δ:=nd K (if from'∈gV m.whose then wi s from' m.whose m.row else s)
def mg(s:MS δ)(w:Int):MS δ:= {s with mirror:=oi s.mirror w}
def fz(s:MS δ)(from' w:Int):MS δ:=
 let back:=λs:MS δ=>nz K (λs=>gd K s s.id (g9 w (dr s.mirror w))) s from' (g9 w (dr s.mirror w))
 if jJ s.view w≠some from' then s
 else if fe s.mirror w then back s
 else if sQ K s (jv w)≠0 then ej K s (jv w)else back (mg (ej K s (jv w)) w)
def hX(s:MS δ)(i w:Int):MS δ:=if wj s i w then s else nz K (λs=>fz K s s.id i) s w (oO i s.view)
def qq(s:MS δ)(i:Int):MS δ:=hX K (hX K s i ((i+1)%5)) i ((i+2)%5)
def fZ(l:List Int)(s:MS δ):MS δ:=l.foldl (qq K) s
def rT(s:MS δ):MS δ:=fZ K (bI s) s
def nb(s:MS δ)(v:ViewT):MS δ:= {s with view:=v,acc:= {AccT.zero with epoch:=v.epoch},vote:=none,round:=0}
def qO(s:MS δ)(v:ViewT):Bool:=decide (s.view.epoch<v.epoch)&&decide (sQ K s (lw v)=0)
def il(s:MS δ)(v:ViewT):MS δ:=if v.epoch≤s.view.epoch then s else if sQ K s (lw v)≠0 then ej K s (lw v)else rT K (nb (ej K s (lw v)) v)
def mJ(s:MS δ)(from':Int)(m:MsgT):MS δ:=fz K (il K s m.view) from' m.whose
def lC(s:MS δ)(c:ChangeT):MS δ:=if(dM s.view c).2≠0 then s else if qO K s (dM s.view c).1 then nW K (il K s (dM s.view c).1) (dM s.view c).1 else il K s (dM s.view c).1
def eR(f:MS δ→MS δ)(s:MS δ)(from':Int)(m:MsgT):MS δ:=
 if m.epoch<s.view.epoch then(if m.kind=3∨m.kind=5 then Es K s from' (ka s.view)else s)
 else if s.view.epoch<m.epoch∨iQ s.view s.id=false then s
 else f (dv s (max s.round m.ballot.round))
def lF(from':Int)(m:MsgT)(s:MS δ):MS δ:=match s.vote with
 |none=>s
 |some vt=>if(gA vt from' m.ballot).2 then lC K (lE s (gA vt from' m.ballot).1) vt.change else(lE s (gA vt from' m.ballot).1)
def rA(s:MS δ)(from':Int)(m:MsgT):MS δ:=eR K (lF K from' m) s from' m
def n6(from':Int)(m:MsgT)(s:MS δ):MS δ:=nz K (λs=>rA K s s.id (jR m.epoch m.ballot)) s from' (jR m.epoch m.ballot)
def pn(from':Int)(m:MsgT)(s:MS δ):MS δ:=
 if(dM s.view m.change).2≠0 then s else if(gC s.acc m.epoch m.ballot m.change).2=false then s
 else if(gC s.acc m.epoch m.ballot m.change).1.flat≠s.acc.flat then(if sQ K s (mx m.epoch m.ballot m.change)≠0 then ej K s (mx m.epoch m.ballot m.change)else n6 K from' m (xZ (ej K s (mx m.epoch m.ballot m.change)) (gC s.acc m.epoch m.ballot m.change).1))
 else n6 K from' m s
def tH(s:MS δ)(from':Int)(m:MsgT):MS δ:=eR K (pn K from' m) s from' m
def jM(s:MS δ)(m:MsgT):MS δ:=iP K s (oa s.id m (λi=>iQ s.view ((i:Nat):Int)) 5)
def jT(f:MS δ→MsgT→MS δ)(s:MS δ)(m:MsgT):MS δ:=if iQ s.view s.id then f (jM K s m) m else jM K s m
def kU(s:MS δ)(vt:VoteT):MS δ:=jT K (λs m=>tH K s s.id m) s (je s.view.epoch vt.ballot vt.change)
def pS(from':Int)(m:MsgT)(s:MS δ):MS δ:=match s.vote with
 |none=>s
 |some vt=>if(eQ vt from' m.ballot m.had m.change).2 then kU K (lE s (eQ vt from' m.ballot m.had m.change).1) (eQ vt from' m.ballot m.had m.change).1 else(lE s (eQ vt from' m.ballot m.had m.change).1)
def rC(s:MS δ)(from':Int)(m:MsgT):MS δ:=eR K (pS K from' m) s from' m
def ox(from':Int)(m:MsgT)(a:AccT)(s:MS δ):MS δ:=nz K (λs=>rC K s s.id (kT m.epoch m.ballot a.had a.change)) s from' (kT m.epoch m.ballot a.had a.change)
def qy(from':Int)(m:MsgT)(s:MS δ):MS δ:=
 if(bW s.acc m.epoch m.ballot).2=false then s
 else if(bW s.acc m.epoch m.ballot).1.vow.flat≠s.acc.vow.flat then(if sQ K s (gZ m.epoch m.ballot)≠0 then ej K s (gZ m.epoch m.ballot)else ox K from' m (bW s.acc m.epoch m.ballot).1 (xZ (ej K s (gZ m.epoch m.ballot)) (bW s.acc m.epoch m.ballot).1))
 else ox K from' m (bW s.acc m.epoch m.ballot).1 s
def tI(s:MS δ)(from':Int)(m:MsgT):MS δ:=eR K (qy K from' m) s from' m
def mZ(s:MS δ)(vt:VoteT):MS δ:=jT K (λs m=>tI K s s.id m) s (fB s.view.epoch vt.ballot)
def n9(s:MS δ)(vt:VoteT):MS δ:=if vt.putting then kU K s vt else mZ K s vt
def eG(s:MS δ):BallotT:=⟨fQ (s.round+1),s.id⟩
def rX(s:MS δ)(c:ChangeT):MS δ:=lE (dv (xZ (ej K s (gZ s.view.epoch (eG s))) (bW s.acc s.view.epoch (eG s)).1) (eG s).round) (jy s.view (eG s) c)
def cp(s:MS δ)(c:ChangeT):MS δ×Int:=
 if(bW s.acc s.view.epoch (eG s)).2=false then(s,6)else if sQ K s (gZ s.view.epoch (eG s))≠0 then(ej K s (gZ s.view.epoch (eG s)),sQ K s (gZ s.view.epoch (eG s)))else(rX K s c,0)
def fF(s:MS δ)(c:ChangeT):Int:=if(dM s.view c).2=0∧s.vote.isSome=true then 8 else(dM s.view c).2
def dX(s:MS δ)(op:Int)(c:ChangeT):MS δ×Int:=
 if fF s c≠0 then(dw s op (fF s c) 0,fF s c)
 else if(cp K s c).2≠0 then(dw (cp K s c).1 op (cp K s c).2 0,(cp K s c).2)
 else(n9 K (dw (cp K s c).1 op 0 0) (jy s.view (eG s) c),0)
def dh(s:MS δ)(o:OpT):RowT×Int×Int:=iL (s.rep .nil) o
def bF(s:MS δ):MS δ:= {s with ops:=fQ (s.ops+1)}
def nR(s:MS δ)(o:OpT):MS δ×Int:=
 if(dh s o).2.2≠0∨o.kind=3 then(dw s s.ops (dh s o).2.2 (dh s o).2.1,(dh s o).2.2)
 else if(eS K s (dh s o).1 s.ops).2≠0 then(dw (eS K s (dh s o).1 s.ops).1 s.ops (eS K s (dh s o).1 s.ops).2 0,(eS K s (dh s o).1 s.ops).2)
 else((eS K s (dh s o).1 s.ops).1,0)
def bV(s:MS δ)(o:OpT):MS δ×Int:=if iQ s.view s.id&&decide (o.kind=4)then dX K (bF s) (bF s).ops o.change else nR K (bF s) o
def gj(s:MS δ)(from':Int)(m:MsgT):MS δ:=
 if m.kind=0 then ja K s from' m else if m.kind=1 then dQ K s from' m else if m.kind=2 then Gp s m.whose m.row
 else if m.kind=7 then il K s m.view else if m.kind=8 then mJ K s from' m else if m.kind=9 then gd K s from' m
 else if m.kind=3 then tI K s from' m else if m.kind=4 then rC K s from' m else if m.kind=5 then tH K s from' m else if m.kind=6 then rA K s from' m else s
def bY(s:MS δ):MS δ:=rT K (nd K (if s.busy=true then fp K s else s))
def cf(s:MS δ):MS δ:=if 1<s.view.epoch then nW K s s.view else s
def gi(s:MS δ):MS δ:=if 0< (cC s.book s.id).version then mI K s (cC s.book s.id)else s
def sE(s:MS δ):MS δ:=match s.vote with
 |none=>s
 |some vt=>if(dM s.view vt.change).2=0 then(if(cp K s vt.change).2=0 then n9 K (cp K s vt.change).1 (jy s.view (eG s) vt.change)else(cp K s vt.change).1)else s
def iw(s:MS δ):MS δ:=if iQ (cf K (bY K s)).view (cf K (bY K s)).id then sE K (gi K (cf K (bY K s)))else cf K (bY K s)
def jG(s:MS δ)(m:RecT):MS δ:=
 if m.kind=0 then {s with own:=m.row,busy:=true,kept:=0}
 else if m.kind=1 then iM s m.whose m.row
 else if m.kind=2 then mg s m.whose
 else if m.kind=3 then {s with acc:= {s.acc with vow:=m.ballot},round:=max s.round m.ballot.round}
 else if m.kind=4 then {s with acc:= {s.acc with vow:=m.ballot,had:=m.ballot,change:=m.change},round:=max s.round m.ballot.round}
 else if m.kind=5 then nb s m.view
 else s
def lL:List (List UInt8)→MS δ→Option (MS δ)
 | [],s=>some s
 |b::bs,s=>if(oo b).2≠0 then none else lL bs (jG s (oo b).1)
def FK(id:Int)(e:δ):MS δ:=⟨id, .zero, .zero, .zero, .zero,0,none, .zero,false,0,0,0,[], #v[0,0,0,0,0], #v[RowT.zero,RowT.zero,RowT.zero,RowT.zero,RowT.zero],e,[]⟩
def Cu(id:Int)(e:δ):MS δ:=nb (FK id e) firstV
theorem G8{ls:List (List UInt8)}{k:Nat}{s:MS δ}(h:k<ls.length)(g:(oo ls[k]).2≠0):lL (ls.drop k) s=none:=by
 rw[dz h,lL,if_pos g]
theorem I4{ls:List (List UInt8)}{k:Nat}{s:MS δ}(h:k<ls.length)(g: ¬(oo ls[k]).2≠0):lL (ls.drop k) s=lL (ls.drop (k+1)) (jG s (oo ls[k]).1):=by
 rw[dz h,lL,if_neg g]
end Api
end

section
namespace Api
open Go Leg Codec
theorem vW{n:Int}(h:(Lit.int .i64 n).wf=true): -9223372036854775808≤n∧n<9223372036854775808:=by
 have m1:IntKind.i64.min= -9223372036854775808:=by decide
 have m2:IntKind.i64.max=9223372036854775807:=by decide
 simp only[Lit.wf,m1,m2,ay,decide_eq_true_eq]at h;omega
theorem st{n:Int}{l:List Int}(h:0≤n∧n<9223372036854775808)(hl:WF l):WF (n::l):=λm hm=>by
 rcases bJ.1 hm with rfl|hm
 · exact sq h
 · exact hl m hm
theorem mc{a b:List Int}(ha:WF a)(hb:WF b):WF (a++b):=λm hm=>by
 rcases ci.1 hm with hm|hm
 · exact ha m hm
 · exact hb m hm
theorem Iw:WF []:=λ_ h=>by cases h
theorem OkB.wf{b:BallotT}(h:OkB b):WF b.flat:=st h.1 (st ⟨h.2.1,by have:=h.2.2;omega⟩ Iw)
theorem OkC.wf{c:ChangeT}(h:OkC c):WF c.flat:=st ⟨h.1.1,by have:=h.1.2;omega⟩ (st ⟨h.2.1.1,by have:=h.2.1.2;omega⟩ (st ⟨h.2.2.1,by have:=h.2.2.2;omega⟩ Iw))
theorem PC:Nm 0:=⟨by decide,by decide⟩
theorem tf(m:MsgT):(dR m).length≤3000:=by
 have h1:=io m.row;have h2:=aW m.ballot.flat;have h3:=aW m.had.flat;have h4:=aW m.change.flat;have h5:=aW m.view.flat;have h6:=aW [m.kind,m.whose];have h7:=aW [m.kind,m.version];have h8:=aW [m.kind,m.epoch];have h9:=aW [m.kind];simp only[BallotT.flat,ChangeT.flat,ViewT.flat,am,aw,aB]at h2 h3 h4 h5 h6 h7 h8 h9;unfold dR;split
 · simp only[ae];omega
 split
 · omega
 split
 · simp only[ae,BallotT.flat];omega
 split
 · simp only[ae,BallotT.flat,ChangeT.flat];omega
 split
 · simp only[ae,BallotT.flat,ChangeT.flat];omega
 split
 · simp only[ae,ViewT.flat];omega
 split
 · simp only[ae,ViewT.flat];omega
 · simp
theorem Ci:hJ RowT.zero=true:=by decide+kernel
theorem KV{m:RecT}{bs r:List UInt8}(h:dx bs=some ((m,true),r)):hJ m.row=true:=by
 obtain⟨k,r1,_,h⟩:=bL h;split at h
 · obtain⟨_,_,_,h⟩:=bL h
   obtain⟨e,_⟩:=ij h;injection e with e1 e2;subst e1;exact e2
 split at h
 · obtain⟨_,_,_,h⟩:=bL h
   obtain⟨_,_,_,h⟩:=bL h;obtain⟨e,_⟩:=ij h;injection e with e1 e2;subst e1;exact e2
 have fin: ∀{m':RecT} {g:Bool} {b r:List UInt8},pr (m',g) b=some ((m,true),r)→m'.row= .zero→hJ m.row=true:=λh e=>by
  obtain⟨e',_⟩:=ij h;injection e' with e1 e2;subst e1;rw[e];exact Ci
 split at h
 · obtain⟨_,_,_,h⟩:=bL h;exact fin h rfl
 split at h
 · obtain⟨_,_,_,h⟩:=bL h;obtain⟨_,_,_,h⟩:=bL h;exact fin h rfl
 split at h
 · obtain⟨_,_,_,h⟩:=bL h;obtain⟨_,_,_,h⟩:=bL h;obtain⟨_,_,_,h⟩:=bL h;exact fin h rfl
 split at h
 · obtain⟨_,_,_,h⟩:=bL h;exact fin h rfl
 · exact fin h rfl
theorem JU(bs:List UInt8):(∃m,oo bs=(m,0)∧bs=kn m∧hJ m.row=true∧WF m.row.flat)∨oo bs=(.zero,1):=by
 unfold oo;split
 · rename_i m h
   obtain⟨h1,_,_,_,h5⟩:=I3 h;rw[aP]at h1;exact .inl ⟨m,rfl,h1,KV h,h5.wf⟩
 · exact .inr rfl
open Dsk Wal
theorem C5(m:RecT):(kn m).length≤3000:=by
 have h1:=io m.row;have h2:=aW m.ballot.flat;have h4:=aW m.change.flat;have h5:=aW m.view.flat;have h6:=aW [m.kind,m.whose];have h8:=aW [m.kind,m.epoch];have h9:=aW [m.kind];simp only[BallotT.flat,ChangeT.flat,ViewT.flat,am,aw,aB]at h2 h4 h5 h6 h8 h9;unfold kn
 repeat' split
 all_goals first|omega| (simp only[ae,BallotT.flat,ChangeT.flat,ViewT.flat,aw];omega)
abbrev rj(n:Int):Prop:= -9223372036854775808≤n∧n<9223372036854775808
theorem nu{n:Int}(h:rj n):(Lit.int .i64 n).wf=true:=by
 have m1:IntKind.i64.min= -9223372036854775808:=by decide
 have m2:IntKind.i64.max=9223372036854775807:=by decide
 simp only[Lit.wf,m1,m2,ay,decide_eq_true_eq];omega
theorem kI(n:Int):rj (fQ n):=by
 unfold fQ rj;simp only[IntKind.wrap,IntKind.bits,IntKind.signed];simp;omega
structure CW(c:CellT):Prop where
 inn:rj c.inn
 out:rj c.out
 given: ∀(j:Nat) (h:j<5),rj c.given[j]
class OkRow(y:RowT):Prop where
 version:rj y.version
 cells: ∀(k:Nat) (h:k<4),CW y.cells[k]
 heir: ∀(i:Nat) (h:i<5),rj y.heir[i]
 left: ∀(i k:Nat) (h:i<5) (g:k<4),CW y.left[i][k]
theorem sy{α:Type}{n:Nat}{v:Vector α n}{x:α}(h:x∈v.toList): ∃(j:Nat) (h:j<n),x=v[j]:=by
 obtain⟨j,hj,rfl⟩:=eO h;rw[aB]at hj;exact⟨j,hj,by simp⟩
theorem F9{α:Type}{n:Nat}(v:Vector α n)(j:Nat)(h:j<n):v[j]∈v.toList:=by simp
theorem yW{m:Nat}{v:Vector CellT m}(h: ∀(k:Nat) (h:k<m),CW v[k]):WF (bQ v.toList):=λn hn=>by
 obtain⟨c,hc,hn⟩:=j7.1 hn;obtain⟨k,hk,rfl⟩:=sy hc;simp only[CellT.flat,bJ]at hn;rcases hn with rfl|rfl|hn
 · exact nu (h k hk).inn
 · exact nu (h k hk).out
 · obtain⟨j,hj,rfl⟩:=sy hn
   exact nu ((h k hk).given j hj)
theorem OkRow.wf{x:RowT}(h:OkRow x):WF x.flat:=λn hn=>by
 simp only[RowT.flat,bJ,ci]at hn;rcases hn with rfl|hn|hn|hn
 · exact nu h.version
 · exact yW h.cells n hn
 · obtain⟨j,hj,rfl⟩:=sy hn
   exact nu (h.heir j hj)
 · obtain⟨v,hv,hn⟩:=j7.1 hn
   obtain⟨j,hj,rfl⟩:=sy hv;exact yW (λk hk=>h.left j k hj hk) n hn
abbrev Kt:= @OkRow.wf
theorem CW.of{m:Nat}{v:Vector CellT m}(h:WF (bQ v.toList))(k:Nat)(hk:k<m):CW v[k]:=by
 have q: ∀n∈v[k].flat,rj n:=λn hn=>vW (h n (j7.2 ⟨_,F9 v k hk,hn⟩))
 exact⟨q _ (by simp[CellT.flat]),q _ (by simp[CellT.flat]),λj hj=>q _ (by simp[CellT.flat])⟩
theorem OkRow.of{x:RowT}(h:WF x.flat):OkRow x:=
 ⟨vW (h _ (by simp[RowT.flat])),CW.of λn hn=>h n (by simp[RowT.flat,hn]),λi hi=>vW (h _ (by simp[RowT.flat])),
  λi k hi hk=>CW.of (λn hn=>h n (by simp only[RowT.flat,bJ,ci,j7];exact .inr (.inr (.inr ⟨_,F9 x.left i hi,hn⟩)))) k hk⟩
class OkVw(v:ViewT):Prop where
 rng:Rng v
 wf:WF v.flat
class OkVt(v:VoteT):Prop where
 view:OkVw v.view
 ballot:WF v.ballot.flat
 change:WF v.change.flat
 best:WF v.best.flat
class OkMg(m:MsgT):Prop where
 row:OkRow m.row
 view:OkVw m.view
 ballot:WF m.ballot.flat
 had:WF m.had.flat
 change:WF m.change.flat
variable {δ:Type}
class OkR(K:outParam (Dk δ))(s:MS δ):Prop where
 e:K.ok s.e
 id:cM s.id=true
 view:OkVw s.view
 own:OkRow s.own
 mir: ∀(i:Nat) (h:i<5),OkRow s.mirror.rows[i]
 book: ∀(i:Nat) (h:i<5),OkRow s.book.rows[i]
 last: ∀(i:Nat) (h:i<5),OkRow s.last[i]
 acc:WF s.acc.flat
 vote: ∀vt,s.vote=some vt→OkVt vt
variable {K:Dk δ}
instance OkRow.zero:OkRow RowT.zero:=OkRow.of tame_rzero.wf
theorem CW.zero:CW .zero:=⟨by decide,by decide,λj hj=>by
 match j,hj with
 |0,_|1,_|2,_|3,_|4,_=>exact⟨(by decide:(-9223372036854775808:Int)≤0),(by decide:(0:Int)<9223372036854775808)⟩⟩
instance {s:MS δ}[h:OkR K s]:OkRow s.own:=h.own
instance {s:MS δ}[h:OkR K s]:OkVw s.view:=h.view
instance {m:MsgT}[h:OkMg m]:OkRow m.row:=h.row
instance {m:MsgT}[h:OkMg m]:OkVw m.view:=h.view
theorem oG{α:Type}{n:Nat}{p:α→Prop}{v:Vector α n}{i:Nat}(hi:i<n){x:α}(h: ∀(j:Nat) (hj:j<n),p v[j])(hx:p x)(j:Nat)(hj:j<n):p (v.set i x hi)[j]:=by
 rw[Vector.getElem_set];split
 · exact hx
 · exact h j hj
instance {s:MS δ}[h:OkR K s](w:Int):OkRow (dr s.mirror w):=by unfold dr;split;exact h.mir _ _;exact .zero
instance {s:MS δ}[h:OkR K s](w:Int):OkRow (cC s.book w):=by unfold cC;split;exact h.book _ _;exact .zero
instance {s:MS δ}[h:OkR K s](w:Int):OkRow (nK s w):=by unfold nK;split;exact h.last _ _;exact .zero
theorem ut{x:RowT}[h:OkRow x](key:Int):CW (dN x key):=by unfold dN;split;exact h.cells _ _;exact .zero
theorem HV{x:RowT}[h:OkRow x](i:Int):rj (fT x i):=by unfold fT;split;exact h.heir _ _;exact⟨by decide,by decide⟩
theorem HJ{x:RowT}[h:OkRow x](i:Int)(k:Nat)(hk:k<4):CW (xm x i)[k]:=by unfold xm;split;exact h.left _ _ _ _;exact OkRow.zero.cells k hk
theorem xc{x:RowT}[h:OkRow x]{key n counts:Int}{c:CellT}(hc:CW c):OkRow (kW x key n counts c).1:=by
 unfold kW;split
 · exact .zero
 · refine⟨kI _,λk hk=>?_,λi hi=>?_,λi k hi hk=>?_⟩
   · show CW (lA x key c).cells[k]
     unfold lA;split
     · exact oG (p:=CW) (AV (by assumption)) h.cells hc k hk
     · exact h.cells k hk
   · show rj (lA x key c).heir[i]
     unfold lA;split<;>exact h.heir i hi
   · show CW (lA x key c).left[i][k]
     unfold lA;split<;>exact h.left i k hi hk
instance {x:RowT}[OkRow x](key n:Int):OkRow (oP x key n).1:=by
 unfold oP;split
 · have:=ut (x:=x) key
   exact xc ⟨kI _,this.out,this.given⟩
 · exact .zero
instance {x:RowT}[OkRow x](key n:Int):OkRow (oQ x key n).1:=by
 unfold oQ;split
 · have:=ut (x:=x) key
   exact xc ⟨this.inn,kI _,this.given⟩
 · exact .zero
instance {x:RowT}[OkRow x](key n to':Int):OkRow (ly x key n to').1:=by
 unfold ly;split
 · have:=ut (x:=x) key
   refine xc ?_;unfold xy;split
   · exact⟨this.inn,this.out,oG (p:=rj) (fm (by assumption)) this.given (kI _)⟩
   · exact this
 · exact .zero
theorem wA{x:RowT}(h:OkRow x){w v:Int}{l:Vector CellT 4}(hv:rj v)(hl: ∀(k:Nat) (h:k<4),CW l[k]):OkRow (oN x w v l):=by
 unfold oN;split
 · exact⟨h.version,h.cells,oG (p:=rj) (fm (by assumption)) h.heir hv,λi k hi hk=>oG (p:=λu:Vector CellT 4=>CW u[k]) (fm (by assumption)) (λj hj=>h.left j k hj hk) (hl k hk) i hi⟩
 · exact h
instance {x d:RowT}[h:OkRow x][g:OkRow d](who:Int):OkRow (dU x who d).1:=by
 have q: ∀k,OkRow (ol x who d k):=λk=>by
  induction k with
  |zero=>exact wA h (kI _) g.cells
  |succ k ih=>
   have e:ol x who d (k+1)=nD who d (ol x who d k) k:=by unfold ol;rw[cZ,eU];rfl
   rw[e];unfold nD;split
   · exact wA ih (HV _) (HJ _)
   · exact ih
 unfold dU;split
 · exact .zero
 split
 · exact .zero
 · exact⟨kI _,(q 5).cells,(q 5).heir,(q 5).left⟩
instance {s:MS δ}[h:OkR K s](l:List Int):OkRow (qi s l):=by
 have: ∀(l:List Int) (x:RowT),OkRow x→OkRow (l.foldl (λx i=>if 0<fT x i then x else(dU x i (nK s i)).1) x):=λl=>by
  induction l with
  |nil=>exact λx hx=>hx
  |cons i l ih=>exact λx hx=>ih _ (by dsimp only;split;exact hx;exact inferInstance)
 exact this l _ h.own
instance {s:MS δ}[h:OkR K s](o:OpT):OkRow (dh s o).1:=by
 have:OkRow (gB (s.rep .nil) o).1:=by
  unfold gB
  repeat' split
  all_goals first|exact .zero|exact inferInstanceAs (OkRow (oP s.own _ _).1)|exact inferInstanceAs (OkRow (oQ s.own _ _).1)|exact inferInstanceAs (OkRow (ly s.own _ _ _).1)
 unfold dh iL
 repeat' split
 all_goals first|exact .zero|exact this
theorem xt{l:List Int}{k:Nat}(h:k<l.length):(ints l)[k]?=some (.int .i64 (l.getD k 0)):=by simp[ints,h,List.getD_eq_getElem?_getD]
theorem o7(s:MS δ)(k:Nat):hO s (k+1)=hO s k++(if C6 s k then [((k:Nat):Int)]else []):=by
 unfold hO;rw[cZ,List.filter_append,cz]
 by_cases h:C6 s k=true<;>simp[h]
theorem wy(b:Int)(k:Nat):kw b (k+1)=kw b k++(if Ie b ((k:Nat):Int)then [((k:Nat):Int)]else []):=by
 unfold kw;rw[cZ,List.filter_append,cz]
 by_cases h:Ie b ((k:Nat):Int)=true<;>simp[h]
theorem tN(b:Int)(k:Nat):(kw b k).length≤k:=by
 unfold kw;rw[bT];exact ml (pv _ _) (by simp)
theorem ul{v:ViewT}{w i:Int}(h:(jJ v w).isSome=true)(g:(jJ v w).getD 0=i):jJ v w=some i:=by
 cases q:jJ v w with
 |none=>rw[q]at h;cases h
 |some z=>rw[q]at g;rw[←g];rfl
theorem A2{s:MS δ}{k:Nat}(h:C6 s k=true):jJ s.view ((k:Nat):Int)=some s.id∧fT s.own ((k:Nat):Int)≤0:=by
 unfold C6 at h;rw[ay,decide_eq_true_iff,decide_eq_true_iff]at h;exact h
theorem Nv{s:MS δ}{k:Nat}(h1:(jJ s.view ((k:Nat):Int)).isSome=true)(h2:(jJ s.view ((k:Nat):Int)).getD 0=s.id)(h3:fT s.own ((k:Nat):Int)≤0):C6 s k=true:=by
 unfold C6;rw[ay,decide_eq_true_iff,decide_eq_true_iff];refine⟨?_,h3⟩;cases q:jJ s.view ((k:Nat):Int)with
 |none=>rw[q]at h1;cases h1
 |some z=>rw[q]at h2;rw[←h2];rfl
theorem H4(s:MS δ)(k:Nat):(hO s k).length≤k:=by
 unfold hO;rw[bT];exact ml (pv _ _) (by simp)
theorem Nr{x d:RowT}{who:Int}(h:cM who=true)(h2: ¬0<fT x who):(dU x who d).2=0:=by
 rw[dU,h,if_neg (by decide),if_neg h2]
theorem Ds(K:Dk δ){l:List Int}{q:Nat}(h:q<l.length)(s:MS δ):fZ K (l.take (q+1)) s=qq K (fZ K (l.take q) s) (l.getD q 0):=by
 unfold fZ;rw[br h,eU,List.getD_eq_getElem?_getD,List.getElem?_eq_getElem h];rfl
theorem uX(s:MS δ){l:List Int}{q:Nat}(h:q<l.length):qi s (l.take (q+1))=(if 0<fT (qi s (l.take q)) (l.getD q 0)then qi s (l.take q)else(dU (qi s (l.take q)) (l.getD q 0) (nK s (l.getD q 0))).1):=by
 unfold qi;rw[br h,eU,List.getD_eq_getElem?_getD,List.getElem?_eq_getElem h];rfl
theorem xG{s:MS δ}{i:Int}(h:i∈bI s):cM i=true∧jJ s.view i=some s.id∧fT s.own i≤0:=by
 unfold bI hO at h;rw[eB]at h;obtain⟨k,hk,rfl⟩:=h;rw[NK,dZ]at hk;have h2:=hk.2;unfold C6 at h2;rw[ay,decide_eq_true_iff,decide_eq_true_iff]at h2;exact⟨decide_eq_true ⟨by omega,by omega⟩,h2.1,h2.2⟩
theorem gE(x:RowT){k:Nat}(h:k<5):fT x ((k:Nat):Int)=x.heir[k]:=by
 rw[fT,dif_pos (show cM ((k:Nat):Int)=true from decide_eq_true ⟨by omega,by omega⟩)];rfl
theorem Iv(w:Int):(gV w).length≤1000000:=by unfold gV;split<;>simp
theorem Ga{k:Nat}(h:k<5):cM ((k:Nat):Int)=true:=decide_eq_true ⟨by omega,by omega⟩
theorem HK(x:RowT){k:Nat}(h:k<5):xm x ((k:Nat):Int)=x.left[k]:=by
 rw[xm,dif_pos (Ga h)];rfl
theorem En(x:RowT){k:Nat}(h:k<5)(v:Int)(l:Vector CellT 4):oN x ((k:Nat):Int) v l= {x with heir:=x.heir.set k v h,left:=x.left.set k l h}:=by
 rw[oN,dif_pos (Ga h)];rfl
theorem o5(x:RowT)(who:Int)(dead:RowT)(k:Nat):ol x who dead (k+1)=nD who dead (ol x who dead k) k:=by unfold ol;rw[cZ,eU];rfl
instance OkVw.first:OkVw firstV:=⟨Rng.first,λn hn=>by
 have h:n∈[(1:Int),7,0,0,0,0,0]:=hn;simp only[bJ,List.not_mem_nil,or_false,or_self]at h
 rcases h with rfl|rfl|rfl<;>decide⟩
instance OkVw.zero:OkVw ViewT.zero:=⟨Rng.zero,λn hn=>by
 have h:n∈[(0:Int),0,0,0,0,0,0]:=hn;simp only[bJ,List.not_mem_nil,or_false,or_self]at h
 rcases h with rfl;decide⟩
theorem D7{v:ViewT}(h1:rj v.epoch)(h2:rj v.members)(hr:Rng v):WF v.flat:=λn hn=>by
 simp only[ViewT.flat,bJ]at hn;rcases hn with rfl|rfl|hn
 · exact nu h1
 · exact nu h2
 · obtain⟨j,hj,rfl⟩:=sy hn
   have:=hr j hj;exact nu ⟨by omega,by omega⟩
theorem sn(n:Int):rj (IntKind.i64.wrap n):=kI n
instance OkVw.next{v:ViewT}[h:OkVw v](c:ChangeT):OkVw (dM v c).1:=by
 unfold dM;split
 · exact .zero
 split
 · split
   · exact .zero
   · exact⟨h.rng,D7 (sn _) (sn _) h.rng⟩
 split
 · split
   · exact .zero
   · have hr:Rng ⟨IntKind.i64.wrap (v.epoch+1),mF .i64 v.members (2^c.who.toNat),rO v c⟩:=λi hi=>by
      show 0≤(rO v c)[i]∧(rO v c)[i]≤5;unfold rO;rw[Vector.getElem_mapIdx];unfold ui;split
      · have hm:cM c.heir=true:=by
         rename_i q _ _ _ _;simp only[NN,Bool.not_eq_true',not_or,Bool.not_eq_false]at q;exact q.2
        have hm2:0≤c.heir∧c.heir<5:=of_decide_eq_true hm;omega
      · exact h.rng i hi
     exact⟨hr,D7 (sn _) (sn _) hr⟩
 · exact .zero
theorem Kl{b:BallotT}(h1:rj b.round)(h2:rj b.who):WF b.flat:=λn hn=>by
 have h:n∈[b.round,b.who]:=hn;simp only[bJ,List.not_mem_nil,or_false]at h;rcases h with rfl|rfl
 · exact nu h1
 · exact nu h2
theorem gR:WF BallotT.zero.flat:=Kl (by decide) (by decide)
theorem py:WF ChangeT.zero.flat:=λn hn=>by
 have h:n∈[(0:Int),0,0]:=hn;simp only[bJ,List.not_mem_nil,or_false,or_self]at h;rcases h with rfl;decide
instance OkMg.sealed(w:Int)(y:RowT)[h:OkRow y]:OkMg (g9 w y):=⟨h, .zero,gR,gR,py⟩
instance OkMg.sealW(w:Int)(v:ViewT)[h:OkVw v]:OkMg (oO w v):=⟨.zero,h,gR,gR,py⟩
section
variable {s:MS δ}
instance [h:OkR K s](l:List SaidT):OkR K (iP K s l):=⟨h.e,h.id,h.view,h.own,h.mir,h.book,h.last,h.acc,h.vote⟩
instance {p:Prop}[Decidable p]{a b:MS δ}[ha:OkR K a][hb:OkR K b]:OkR K (if p then a else b):=by split;exact ha;exact hb
instance {f:MS δ→MS δ}{t:Int}{m:MsgT}[h:OkR K s][hf:OkR K (f s)]:OkR K (nz K f s t m):=by
 unfold nz;split
 · exact hf
 · exact⟨h.e,h.id,h.view,h.own,h.mir,h.book,h.last,h.acc,h.vote⟩
instance [h:OkR K s](t:Int)(m:MsgT):OkR K (Es K s t m):=inferInstanceAs (OkR K (iP K s _))
instance [h:OkR K s](r:RecT):OkR K (ej K s r):=⟨K.sure _ _ h.e (C5 r),h.id,h.view,h.own,h.mir,h.book,h.last,h.acc,h.vote⟩
instance [h:OkR K s](a b c:Int):OkR K (dw s a b c):=⟨h.e,h.id,h.view,h.own,h.mir,h.book,h.last,h.acc,h.vote⟩
instance [h:OkR K s]:OkR K (bF s):=⟨h.e,h.id,h.view,h.own,h.mir,h.book,h.last,h.acc,h.vote⟩
instance [h:OkR K s](f:Int):OkR K (iN s f):=⟨h.e,h.id,h.view,h.own,h.mir,h.book,h.last,h.acc,h.vote⟩
instance [h:OkR K s]:OkR K (mo s):=⟨h.e,h.id,h.view,h.own,h.mir,h.book,h.last,h.acc,h.vote⟩
theorem zf{b:BookT}{w:Int}{x:RowT}(h: ∀(i:Nat) (h:i<5),OkRow b.rows[i])(hx:OkRow x): ∀(i:Nat) (h:i<5),OkRow (fA b w x).1.rows[i]:=by
 unfold fA;split
 · unfold AG
   split
   · exact oG (p:=OkRow) (fm (by assumption)) h hx
   · exact h
 · exact h
instance OkR.merge[h:OkR K s](w:Int)(x:RowT)[hx:OkRow x]:OkR K (Gp s w x):=⟨h.e,h.id,h.view,h.own,h.mir,zf h.book hx,h.last,h.acc,h.vote⟩
instance [h:OkR K s]:OkR K (gP s):=⟨h.e,h.id,h.view,h.own,h.mir,zf h.book h.own,h.last,h.acc,h.vote⟩
theorem EP{b:MirT}{w:Int}{x:RowT}(h: ∀(i:Nat) (h:i<5),OkRow b.rows[i])(hx:OkRow x): ∀(i:Nat) (h:i<5),OkRow (mB b w x).1.rows[i]:=by
 unfold mB;split
 · unfold AT
   split
   · exact oG (p:=OkRow) (fm (by assumption)) h hx
   · exact h
 · exact h
instance [h:OkR K s](w:Int)(x:RowT)[hx:OkRow x]:OkR K (iM s w x):=⟨h.e,h.id,h.view,h.own,EP h.mir hx,h.book,h.last,h.acc,h.vote⟩
instance [h:OkR K s](w:Int):OkR K (mg s w):=⟨h.e,h.id,h.view,h.own,λi hi=>by
 show OkRow (oi s.mirror w).rows[i]
 unfold oi;split<;>exact h.mir i hi,h.book,h.last,h.acc,h.vote⟩
instance [h:OkR K s](x:RowT)[hx:OkRow x](op:Int):OkR K (uY s x op):=⟨h.e,h.id,h.view,hx,h.mir,h.book,h.last,h.acc,h.vote⟩
instance [OkR K s]:OkR K (fp K s):=inferInstanceAs (OkR K (iP K s _))
instance [OkR K s](y:RowT):OkR K (mI K s y):=inferInstanceAs (OkR K (iP K s _))
instance [OkR K s](v:ViewT):OkR K (nW K s v):=inferInstanceAs (OkR K (iP K s _))
instance [OkR K s](m:MsgT):OkR K (jM K s m):=inferInstanceAs (OkR K (iP K s _))
instance [OkR K s](x:RowT)[OkRow x](op:Int):OkR K (eS K s x op).1:=by unfold eS;split<;>exact inferInstance
instance [h:OkR K s]:OkR K (nd K s):=by
 unfold nd;split
 · exact h
 split
 · exact inferInstance
 · exact h
instance [OkR K s]:OkR K (lX K s):=by unfold lX;exact inferInstance
instance [h:OkR K s](f:Int)(m:MsgT):OkR K (dQ K s f m):=by
 unfold dQ
 repeat' split
 all_goals exact inferInstance
instance [h:OkR K s](f:Int)(m:MsgT)[OkMg m]:OkR K (ja K s f m):=by
 unfold ja
 repeat' split
 all_goals exact inferInstance
theorem KQ{v:Vector RowT 5}{w:Int}{x:RowT}(h: ∀(i:Nat) (h:i<5),OkRow v[i])(hx:OkRow x): ∀(i:Nat) (h:i<5),OkRow (B6 v w x)[i]:=by
 unfold B6;split
 · exact oG (p:=OkRow) (fm (by assumption)) h hx
 · exact h
instance [h:OkR K s](w:Int)(x:RowT)[hx:OkRow x]:OkR K (lV s w x):=⟨h.e,h.id,h.view,h.own,h.mir,h.book,by
 show ∀(i:Nat) (h:i<5),OkRow (if rr s w=0∨(nK s w).version<x.version then B6 s.last w x else s.last)[i];split
 · exact KQ h.last hx
 · exact h.last,h.acc,h.vote⟩
instance [OkR K s](f w:Int)(y:RowT)[OkRow y]:OkR K (wi s f w y):=by
 have h:OkR K (lV s w y):=inferInstance;exact⟨h.e,h.id,h.view,h.own,h.mir,h.book,h.last,h.acc,h.vote⟩
instance [h:OkR K s](f:Int)(m:MsgT)[OkMg m]:OkR K (gd K s f m):=by unfold gd;split<;>exact inferInstance
theorem wD[OkR K s]{f:MS δ→MS δ}(hf:OkR K (f s))(t:Int)(m:MsgT):OkR K (nz K f s t m):=by unfold nz;split;exact hf;exact inferInstance
instance [h:OkR K s](f w:Int):OkR K (fz K s f w):=by
 unfold fz
 repeat' split
 · exact h
 · exact wD inferInstance _ _
 · exact inferInstance
 · exact wD inferInstance _ _
instance [h:OkR K s](i w:Int):OkR K (hX K s i w):=by
 unfold hX;split
 · exact h
 · exact wD inferInstance _ _
instance [OkR K s](i:Int):OkR K (qq K s i):=by unfold qq;exact inferInstance
theorem uq: ∀(l:List Int) (s:MS δ),OkR K s→OkR K (fZ K l s)
 | [],_,h=>h
 |i::l,s,h=>uq l (qq K s i) inferInstance
instance [h:OkR K s]:OkR K (rT K s):=uq _ _ h
theorem Pe(n:Int)(h:rj n):WF ({AccT.zero with epoch:=n}:AccT).flat:=λk hk=>by
 have q:k∈[n,0,0,0,0,0,0,0]:=hk;simp only[bJ,List.not_mem_nil,or_false,or_self]at q;rcases q with rfl|rfl
 · exact nu h
 · decide
instance [h:OkR K s](v:ViewT)[hv:OkVw v]:OkR K (nb s v):=⟨h.e,h.id,hv,h.own,h.mir,h.book,h.last,Pe _ (vW (hv.wf _ (by simp[ViewT.flat]))),λ_ e=>nomatch e⟩
instance [h:OkR K s](v:ViewT)[OkVw v]:OkR K (il K s v):=by
 unfold il
 repeat' split
 all_goals exact inferInstance
instance [h:OkR K s](f:Int)(m:MsgT)[OkMg m]:OkR K (mJ K s f m):=by unfold mJ;exact inferInstance
instance [h:OkR K s](c:ChangeT):OkR K (lC K s c):=by
 unfold lC
 repeat' split
 all_goals exact inferInstance
class OkAc(a:AccT):Prop where wf:WF a.flat
instance [h:OkR K s]:OkAc s.acc:=⟨h.acc⟩
theorem nS{a b:List Int}(h:WF (a++b)):WF a:=λn hn=>h n (List.mem_append_left _ hn)
theorem tB{a b:List Int}(h:WF (a++b)):WF b:=λn hn=>h n (Q4 _ hn)
theorem OkAc.vow{a:AccT}(h:OkAc a):WF a.vow.flat:=tB (nS (nS h.wf))
theorem OkAc.had{a:AccT}(h:OkAc a):WF a.had.flat:=tB (nS h.wf)
theorem OkAc.change{a:AccT}(h:OkAc a):WF a.change.flat:=tB h.wf
theorem OkAc.epoch{a:AccT}(h:OkAc a):WF [a.epoch]:=nS (nS (nS h.wf))
theorem OkAc.ask{a:AccT}(h:OkAc a){ep:Int}{b:BallotT}(hb:WF b.flat):OkAc (bW a ep b).1:=by
 unfold bW;split
 · exact h
 · exact⟨mc (mc (mc h.epoch hb) h.had) h.change⟩
theorem OkAc.put{a:AccT}(h:OkAc a){ep:Int}{b:BallotT}{c:ChangeT}(hb:WF b.flat)(hc:WF c.flat):OkAc (gC a ep b c).1:=by
 unfold gC;split
 · exact h
 · exact⟨mc (mc (mc h.epoch hb) hb) hc⟩
instance [h:OkR K s](n:Int):OkR K (dv s n):=⟨h.e,h.id,h.view,h.own,h.mir,h.book,h.last,h.acc,h.vote⟩
instance [h:OkR K s](v:VoteT)[hv:OkVt v]:OkR K (lE s v):=⟨h.e,h.id,h.view,h.own,h.mir,h.book,h.last,h.acc,λ_ e=>cY e▸hv⟩
instance [h:OkR K s](a:AccT)[ha:OkAc a]:OkR K (xZ s a):=⟨h.e,h.id,h.view,h.own,h.mir,h.book,h.last,ha.wf,h.vote⟩
instance {v:VoteT}[h:OkVt v]{m:MsgT}[hm:OkMg m](w:Int):OkVt (eQ v w m.ballot m.had m.change).1:=by
 unfold eQ;split
 · exact h
 · unfold wh
   split
   · exact⟨h.view,h.ballot,hm.change,hm.had⟩
   · exact⟨h.view,h.ballot,h.change,h.best⟩
instance {v:VoteT}[h:OkVt v](w:Int)(b:BallotT):OkVt (gA v w b).1:=by
 unfold gA;split
 · exact h
 · exact⟨h.view,h.ballot,h.change,h.best⟩
instance {m:MsgT}[hm:OkMg m][h:OkR K s](ep:Int):OkAc (bW s.acc ep m.ballot).1:=OkAc.ask ⟨h.acc⟩ hm.ballot
instance {m:MsgT}[hm:OkMg m][h:OkR K s](ep:Int):OkAc (gC s.acc ep m.ballot m.change).1:=OkAc.put ⟨h.acc⟩ hm.ballot hm.change
instance tookF_ok[h:OkR K s](f:Int)(m:MsgT):OkR K (lF K f m s):=by
 unfold lF;split
 · exact h
 · rename_i vt hv
   have:=h.vote vt hv;split<;>exact inferInstance
theorem sw[h:OkR K s]{f:MS δ→MS δ}(hf: ∀s:MS δ,OkR K s→OkR K (f s))(w:Int)(m:MsgT):OkR K (eR K f s w m):=by
 unfold eR
 repeat' split
 · exact inferInstance
 · exact h
 · exact h
 · exact hf _ inferInstance
instance [OkR K s](w:Int)(m:MsgT):OkR K (rA K s w m):=sw (λ_ _=>inferInstance) w m
instance [h:OkR K s](w:Int)(m:MsgT):OkR K (n6 K w m s):=by unfold n6;exact inferInstance
instance [h:OkR K s](w:Int)(m:MsgT)[OkMg m]:OkR K (pn K w m s):=by
 unfold pn
 repeat' split
 all_goals exact inferInstance
instance [OkR K s](w:Int)(m:MsgT)[OkMg m]:OkR K (tH K s w m):=sw (λ_ _=>inferInstance) w m
instance OkMg.putM(ep:Int){vt:VoteT}[h:OkVt vt]:OkMg (je ep vt.ballot vt.change):=⟨.zero, .zero,h.ballot,gR,h.change⟩
instance OkMg.askM(ep:Int){vt:VoteT}[h:OkVt vt]:OkMg (fB ep vt.ballot):=⟨.zero, .zero,h.ballot,gR,py⟩
instance OkMg.takenM(ep:Int){m:MsgT}[h:OkMg m]:OkMg (jR ep m.ballot):=⟨.zero, .zero,h.ballot,gR,py⟩
theorem OkMg.promM(ep:Int){m:MsgT}[h:OkMg m]{a:AccT}(ha:OkAc a):OkMg (kT ep m.ballot a.had a.change):=⟨.zero, .zero,h.ballot,ha.had,ha.change⟩
theorem uP[h:OkR K s]{f:MS δ→MsgT→MS δ}{m:MsgT}(hf: ∀s:MS δ,OkR K s→OkR K (f s m)):OkR K (jT K f s m):=by
 unfold jT;split
 · exact hf _ inferInstance
 · exact inferInstance
instance [h:OkR K s](vt:VoteT)[OkVt vt]:OkR K (kU K s vt):=uP λ_ _=>inferInstance
instance [h:OkR K s](f:Int)(m:MsgT)[OkMg m]:OkR K (pS K f m s):=by
 unfold pS;split
 · exact h
 · rename_i vt hv
   have:=h.vote vt hv;split<;>exact inferInstance
instance [OkR K s](w:Int)(m:MsgT)[OkMg m]:OkR K (rC K s w m):=sw (λ_ _=>inferInstance) w m
theorem xV[h:OkR K s](w:Int)(m:MsgT)[OkMg m]{a:AccT}(ha:OkAc a):OkR K (ox K w m a s):=by
 have:=OkMg.promM m.epoch (m:=m) ha;unfold ox;exact inferInstance
instance [h:OkR K s](w:Int)(m:MsgT)[OkMg m]:OkR K (qy K w m s):=by
 unfold qy
 repeat' split
 · exact h
 · exact inferInstance
 · exact xV w m inferInstance
 · exact xV w m inferInstance
instance [OkR K s](w:Int)(m:MsgT)[OkMg m]:OkR K (tI K s w m):=sw (λ_ _=>inferInstance) w m
instance [h:OkR K s](vt:VoteT)[OkVt vt]:OkR K (mZ K s vt):=uP λ_ _=>inferInstance
instance [h:OkR K s](vt:VoteT)[OkVt vt]:OkR K (n9 K s vt):=by unfold n9;split<;>exact inferInstance
theorem D5{v:VoteT}{w:Int}{b had:BallotT}{c:ChangeT}(h:(eQ v w b had c).2=true):(eQ v w b had c).1.putting=true:=by
 unfold eQ at h ⊢;split
 · rename_i q;rw[if_pos q]at h;cases h
 · rename_i q;rw[if_neg q]at h;exact h
theorem IB(s:MS δ)[h:OkR K s]:WF (eG s).flat:=Kl (kI _) (by have:0≤s.id∧s.id<5:=of_decide_eq_true h.id;exact⟨by show _≤s.id;omega,by show s.id<_;omega⟩)
class OkCh(c:ChangeT):Prop where wf:WF c.flat
instance newVote_ok[h:OkR K s](c:ChangeT)[hc:OkCh c]:OkVt (jy s.view (eG s) c):=⟨h.view,IB s,hc.wf,gR⟩
instance {vt:VoteT}[h:OkVt vt]:OkCh vt.change:=⟨h.change⟩
instance [h:OkR K s](c:ChangeT)[OkCh c]:OkR K (rX K s c):=by
 have:OkAc (bW s.acc s.view.epoch (eG s)).1:=OkAc.ask ⟨h.acc⟩ (IB s);unfold rX;exact inferInstance
instance [h:OkR K s](c:ChangeT)[OkCh c]:OkR K (cp K s c).1:=by
 unfold cp
 repeat' split
 all_goals exact inferInstance
theorem rV{c:ChangeT}(h:(cp K s c).2=0):(cp K s c).1.vote=some (jy s.view (eG s) c):=by
 unfold cp at h ⊢
 by_cases h1:(bW s.acc s.view.epoch (eG s)).2=false
 · rw[if_pos h1]at h;cases h
 by_cases h2:sQ K s (gZ s.view.epoch (eG s))≠0
 · rw[if_neg h1,if_pos h2]at h;exact absurd h h2
 · rw[if_neg h1,if_neg h2];rfl
instance [h:OkR K s](op:Int)(c:ChangeT)[OkCh c]:OkR K (dX K s op c).1:=by
 unfold dX
 repeat' split
 all_goals exact inferInstance
instance [h:OkR K s](o:OpT):OkR K (nR K s o).1:=by
 unfold nR
 repeat' split
 all_goals exact inferInstance
instance [h:OkR K s](o:OpT)[OkCh o.change]:OkR K (bV K s o).1:=by unfold bV;split<;>exact inferInstance
instance [h:OkR K s]:OkR K (bY K s):=by unfold bY;exact inferInstance
instance [h:OkR K s]:OkR K (cf K s):=by unfold cf;exact inferInstance
instance [h:OkR K s]:OkR K (gi K s):=by unfold gi;exact inferInstance
instance [h:OkR K s]:OkR K (sE K s):=by
 unfold sE;split
 · exact h
 · rename_i vt hv
   have:=h.vote vt hv
   repeat' split
   all_goals exact inferInstance
instance [h:OkR K s]:OkR K (iw K s):=by unfold iw;exact inferInstance
instance [h:OkR K s](f:Int)(m:MsgT)[OkMg m]:OkR K (gj K s f m):=by
 unfold gj
 repeat' split
 all_goals exact inferInstance
theorem iF(s:MS δ)(c:ChangeT):(cp K s c).1.replies=s.replies:=by
 unfold cp;split
 · rfl
 · split<;>rfl
theorem jz(s:MS δ)(x:RowT)(op:Int):(eS K s x op).1.replies=s.replies:=by unfold eS;split<;>rfl
end
end Api
end

section
namespace Leg
open Go Codec Api
def WX(P:Program)(ops:Array Oper)(Q:QQ)(is:List Nat)(a:Act)(w:World):Prop:=
 ∀(b:Frame) (k:List Item) (cs:List Frame),∃e a' w',Q e a' w'∧Arrives P (lone (b.at a (.inRegion ops is::k)) cs w) b k cs e a' w'
theorem WX.nil{P:Program}{ops:Array Oper}{Q:QQ}{a:Act}{w:World}(h:Q .normal a w):WX P ops Q [] a w:=
 λ_ _ _=>⟨.normal,a,w,h, .one step_region_end⟩
theorem WX.region{P:Program}{id:Nat}{ops:Array Oper}{Q:QQ}{a:Act}{w:World}(h:WX P ops Q (List.range ops.size) a w):(Code.region id ops false).wp P Q a w:=
 λb k cs=>let ⟨e,a',w',q,r⟩:=h b k cs;⟨e,a',w',q, .of_steps (.one step_region) r⟩
section
variable {P:Program} {ops:Array Oper} {Q:QQ} {is:List Nat} {a:Act} {w:World} {i:Nat} {o:Oper}
theorem Gq(b:Frame)(k:List Item)(ho:ops[i]?=some o)(a:Act)(v:Value):(b.at a (.inRegion ops (i::is)::k)).finish v=b.at (a.put o.dst v) (.inRegion ops is::k):=by rw[Frame.finish_at,ho];rfl
theorem WX.value{v:Value}{w1:World}(ho:ops[i]?=some o)(hw:Region.wanted o (yielded ops a.tmps)=true)(hr:(execOp a.eval o).run P w= .ok (.value v) w1)(h:WX P ops Q is (a.put o.dst v) w1):WX P ops Q (i::is) a w:=λb k cs=>by
 obtain⟨e,a',w',q,r⟩:=h b k cs;refine⟨e,a',w',q, .of_steps (.one (step_lone_go ?_)) r⟩;rw[stepG_op ho hw,←Gq b k ho];simp[stepG.apply,hr]
theorem WX.comm{v:Value}{w1 w2:World}{cases:Array CommCase}{blocking:Bool}{shape:CommShape}(ho:ops[i]?=some o)(hw:Region.wanted o (yielded ops a.tmps)=true)(hr:(execOp a.eval o).run P w= .ok (.comm cases blocking shape) w1)
 (hs: ∀fr cs es,stepG P true (Conc.G fr cs) w= .comm (Conc.G fr cs) cases blocking shape w1 es→step P (Conc.solo (Conc.G fr cs) w)= .next (Conc.solo (Conc.G (fr.finish v) cs) w2)) (h:WX P ops Q is (a.put o.dst v) w2):WX P ops Q (i::is) a w:=λb k cs=>by
 obtain⟨e,a',w',q,r⟩:=h b k cs;have h1:=stepG_op (P:=P) (b:=b) (k:=k) (cs:=cs) (w:=w) (rest:=is) ho hw
 have h2: ∃es,stepG P true (Conc.G (b.at a (.inRegion ops (i::is)::k)) cs) w= .comm (Conc.G (b.at a (.inRegion ops (i::is)::k)) cs) cases blocking shape w1 es:=by
  unfold Conc.G;rw[h1];simp only[stepG.apply,Sem.runT_eq,hr];exact⟨_,rfl⟩
 obtain⟨es,h2⟩:=h2;have h3:=hs _ _ _ h2;rw[Gq b k ho]at h3;exact⟨e,a',w',q, .of_steps (.one h3) r⟩
abbrev NQ:= @WX.comm
end
end Leg
namespace Leg
open Go Codec Api
section
variable (P:Program) (w0:World) (F:Hl) (n:Nat)
def TX(ops:Array Oper)(Q:QQ)(is:List Nat)(D:List Deferred)(L:List (Nat×Value))(H:List HP):Prop:=∀a w,Fr n D L a→Same w0 w→Sat H F w→WX P ops Q is a w
end
section
variable {P:Program} {w0:World} {F:Hl} {n:Nat} {ops:Array Oper} {Q:QQ} {is:List Nat} {D:List Deferred} {L:List (Nat×Value)} {H:List HP} {i d:Nat} {o:Oper}
theorem TC.regionX{id:Nat}{l:List Oper}(h:TX P w0 F n l.toArray Q (List.range l.length) D L H):TC P w0 F n (.region id l.toArray false) Q D L H:=
 λa w f s m=>WX.region (by simpa using h a w f s m)
abbrev yJ:= @TC.regionX
theorem TX.nil(h:TE w0 F n Q .normal D L H):TX P w0 F n ops Q [] D L H:=λa w f s m=>WX.nil (h a w f s m)
abbrev L4:= @TX.nil
theorem TX.v{v:Value}(ho:ops[i]?=some o)(hw:Want n D ops o L)(hd:o.dst=some d)(hn:Nat.blt d n=true)(h1:PV P n D L (Sat H F) o v)(h:TX P w0 F n ops Q is D ((d,v)::L) H):TX P w0 F n ops Q (i::is) D L H:=λa w f s m=>by
 refine WX.value ho (hw a f) (h1 a w f m) ?_;rw[hd];exact h _ _ (f.put (lb hn) _) s m
abbrev tr:= @TX.v
end
end Leg
namespace Leg
open Go Codec Api Go.Conc
section
variable {P:Program} {w0:World} {F:Hl} {n:Nat} {ops:Array Oper} {Q:QQ} {is:List Nat} {D:List Deferred} {L:List (Nat×Value)} {H:List HP} {i d:Nat} {o:Oper}
theorem Sat.chan{w:World}{c cap s r:Nat}{vs:List Value}(m:Sat H F w)(k:Nat)(hk:Nat.blt k H.length=true)(e:H.getD k (λ_=>True)=ee c cap vs s r):w.heap[c]?=some (.chan cap vs.toArray false s r false):=by
 obtain⟨h,d,e',x⟩:=m;obtain⟨h1,h2,d',rfl,a,_⟩:=eE k (lb hk) x;rw[e]at a
 have:hp w c=some (.chan cap vs.toArray false s r false):=by
  rw[e',jk];exact gx (by rw[show h1=sg c _ from a];simp[sg])
 exact this
theorem Sat.setChan{w:World}{c cap s r s' r':Nat}{vs vs':List Value}(m:Sat H F w)(k:Nat)(hk:Nat.blt k H.length=true)(e:H.getD k (λ_=>True)=ee c cap vs s r):Sat (H.set k (ee c cap vs' s' r')) F (w.setChan c cap vs'.toArray false s' r' false):=by
 have hc:=m.chan k hk e
 have hlt:c<w.heap.size:=by
  by_cases q:c<w.heap.size
  · exact q
  · rw[Array.getElem?_eq_none (by omega)]at hc;cases hc
 exact m.write k (lb hk) e (heap_setChan w c cap vs'.toArray false s' r' false hlt) (λj hj=>by simp[World.setChan,Array.getElem?_setIfInBounds,Ne.symm hj])
theorem Same.setChan{w w':World}(s:Same w w')(c cap:Nat)(b:Array Value)(cl:Bool)(x y:Nat)(t:Bool):Same w (w'.setChan c cap b cl x y t):=s.trans ⟨rfl,rfl,rfl,by simp[World.setChan]⟩
theorem sL{x:Operand}{so:Option Operand}{e:TypeId}{z:Value}{blocking:Bool}(ho:o.op= .select #[⟨x,so,e⟩] blocking)(hz:(P.info? e).map (·.zero)=some (some z))(ev:Operand→Value)(w:World):
 (execOp ev o).run P w= .ok (.comm #[{chan:=ev x,send:=so.map ev,zero:=z}] blocking .select) w:=by
 simp[execOp,ho,Sem.run_bind,n0 hz]
theorem TX.sendRoom{x y:Operand}{e c cap s r:Nat}{z v:Value}{vs:List Value}(k:Nat)(ho:ops[i]?=some o)(hw:Want n D ops o L)(hop:o.op= .select #[⟨x,some y,e⟩] false)(hd:o.dst=some d)(hn:Nat.blt d n=true)(hz:(P.info? e).map (·.zero)=some (some z))
 (hx:cB L x=some (.chan (some c))) (hy:cB L y=some v) (hk:Nat.blt k H.length=true) (hH:H.getD k (λ_=>True)=ee c cap vs s r) (hroom:vs.length<cap)
 (h:TX P w0 F n ops Q is D ((d, .tuple #[.int .i64 0, .bool false])::L) (H.set k (ee c cap (vs++[v]) (s+1) r))):TX P w0 F n ops Q (i::is) D L H:=λa w f sm m=>by
 have hc:=m.chan k hk hH;have hr:=sL (P:=P) hop hz a.eval w;rw[f.eval hx]at hr;simp only[Option.map_some,f.eval hy]at hr;refine NQ (v:= .tuple #[.int .i64 0, .bool false]) (w2:=w.setChan c cap (vs++[v]).toArray false (s+1) r false) ho (hw a f) hr (λfr cs es hs=>?_) ?_
 · have:=step_lone_sel_send_room (k:=0) hs rfl (λj c' hj hjc=>by cases j with|zero=>exact absurd rfl hj|succ j=>simp at hjc) hc (by simpa using hroom)
   rw[this];simp[commResult,goInt]
 · rw[hd]
   exact h _ _ (f.put (lb hn) _) (sm.setChan ..) (m.setChan k hk hH)
theorem TX.sendFull{x y:Operand}{e c cap s r:Nat}{z v:Value}{vs:List Value}(k:Nat)(ho:ops[i]?=some o)(hw:Want n D ops o L)(hop:o.op= .select #[⟨x,some y,e⟩] false)(hd:o.dst=some d)(hn:Nat.blt d n=true)(hz:(P.info? e).map (·.zero)=some (some z))
 (hx:cB L x=some (.chan (some c))) (hy:cB L y=some v) (hk:Nat.blt k H.length=true) (hH:H.getD k (λ_=>True)=ee c cap vs s r) (hfull:cap≤vs.length)
 (h:TX P w0 F n ops Q is D ((d, .tuple #[.int .i64 (-1), .bool false])::L) H):TX P w0 F n ops Q (i::is) D L H:=λa w f sm m=>by
 have hc:=m.chan k hk hH;have hr:=sL (P:=P) hop hz a.eval w;rw[f.eval hx]at hr;simp only[Option.map_some,f.eval hy]at hr;refine NQ (v:= .tuple #[.int .i64 (-1), .bool false]) (w2:=w) ho (hw a f) hr (λfr cs es hs=>?_) ?_
 · have:=step_lone_sel_default hs (λcc hcc=>by
    obtain rfl:cc=scase c v z:=by simpa [scase]using hcc
    exact noWay_send hc (by simpa using hfull))
   rw[this];simp[commResult,goInt]
 · rw[hd]
   exact h _ _ (f.put (lb hn) _) sm m
theorem TX.recvBuf{x:Operand}{e c cap s r:Nat}{z v:Value}{vs:List Value}(k:Nat)(ho:ops[i]?=some o)(hw:Want n D ops o L)(hop:o.op= .select #[⟨x,none,e⟩] false)(hd:o.dst=some d)(hn:Nat.blt d n=true)(hz:(P.info? e).map (·.zero)=some (some z))
 (hx:cB L x=some (.chan (some c))) (hk:Nat.blt k H.length=true) (hH:H.getD k (λ_=>True)=ee c cap (v::vs) s r)
 (h:TX P w0 F n ops Q is D ((d, .tuple #[.int .i64 0, .bool true,v])::L) (H.set k (ee c cap vs s (r+1)))):TX P w0 F n ops Q (i::is) D L H:=λa w f sm m=>by
 have hc:=m.chan k hk hH;have hr:=sL (P:=P) hop hz a.eval w;rw[f.eval hx]at hr;simp only[Option.map_none]at hr;refine NQ (v:= .tuple #[.int .i64 0, .bool true,v]) (w2:=w.setChan c cap vs.toArray false s (r+1) false) ho (hw a f) hr (λfr cs es hs=>?_) ?_
 · have:=step_lone_sel_recv_buf (k:=0) hs rfl (λj c' hj hjc=>by cases j with|zero=>exact absurd rfl hj|succ j=>simp at hjc) hc (by simp)
   rw[this];simp[commResult,goInt]
 · rw[hd]
   exact h _ _ (f.put (lb hn) _) (sm.setChan ..) (m.setChan k hk hH)
theorem TX.recvNone{x:Operand}{e c cap s r:Nat}{z:Value}(k:Nat)(ho:ops[i]?=some o)(hw:Want n D ops o L)(hop:o.op= .select #[⟨x,none,e⟩] false)(hd:o.dst=some d)(hn:Nat.blt d n=true)(hz:(P.info? e).map (·.zero)=some (some z))
 (hx:cB L x=some (.chan (some c))) (hk:Nat.blt k H.length=true) (hH:H.getD k (λ_=>True)=ee c cap [] s r)
 (h:TX P w0 F n ops Q is D ((d, .tuple #[.int .i64 (-1), .bool false,z])::L) H):TX P w0 F n ops Q (i::is) D L H:=λa w f sm m=>by
 have hc:=m.chan k hk hH;have hr:=sL (P:=P) hop hz a.eval w;rw[f.eval hx]at hr;simp only[Option.map_none]at hr;refine NQ (v:= .tuple #[.int .i64 (-1), .bool false,z]) (w2:=w) ho (hw a f) hr (λfr cs es hs=>?_) ?_
 · have:=step_lone_sel_default hs (λcc hcc=>by
    obtain rfl:cc=rcase c z:=by simpa [rcase]using hcc
    exact noWay_recv hc)
   rw[this];simp[commResult,goInt]
 · rw[hd]
   exact h _ _ (f.put (lb hn) _) sm m
end
end Leg
namespace Leg
open Go Codec Api Go.Conc
section
variable {P:Program} {w0:World} {F:Hl} {n:Nat} {ops:Array Oper} {Q:QQ} {D:List Deferred} {L:List (Nat×Value)} {H:List HP} {d:Nat} {o:Oper}
theorem PV.lenChan{t e:TypeId}{dir:ChanDir}{x:Operand}{c cap s r:Nat}{vs:List Value}(k:Nat)(ho:o.op= .call {callee:= .builtin .len,args:=#[x],argTypes:=#[t]})(ht:P.underlying t=some (.chan dir e))(hx:cB L x=some (.chan (some c)))
 (hk:Nat.blt k H.length=true) (hH:H.getD k (λ_=>True)=ee c cap vs s r):PV P n D L (Sat H F) o (.int .i64 ((vs.length:Nat):Int)):=λa w f m=>by
 have hl:=Conc.run_len_chan (P:=P) (w:=w) (dir:=dir) (e:=e) t o.type ht (m.chan k hk hH);simp[execOp,ho,resolve,f.eval hx,invoke,builtin,hl,goInt]
theorem PV.capChan{t e:TypeId}{dir:ChanDir}{x:Operand}{c cap s r:Nat}{vs:List Value}(k:Nat)(ho:o.op= .call {callee:= .builtin .cap,args:=#[x],argTypes:=#[t]})(ht:P.underlying t=some (.chan dir e))(hx:cB L x=some (.chan (some c)))
 (hk:Nat.blt k H.length=true) (hH:H.getD k (λ_=>True)=ee c cap vs s r):PV P n D L (Sat H F) o (.int .i64 ((cap:Nat):Int)):=λa w f m=>by
 have hl:=Conc.run_cap_chan (P:=P) (w:=w) (dir:=dir) (e:=e) t o.type ht (m.chan k hk hH);simp[execOp,ho,resolve,f.eval hx,invoke,builtin,hl,goInt]
end
abbrev ib(T U b:Nat)(ls:List (List UInt8)):HP:=pack (λq:Nat×List Value×Nat×Nat=>[ah b [.chan (some q.1)] T,ee q.1 8 q.2.1 q.2.2.1 q.2.2.2,eD q.2.1 ls U])
def rh(T U:Nat)(bs:List Nat)(W:List (List (List UInt8)))(k:Nat):HP:=if k%6=0 then(λ_=>True)else ib T U (bs.getD k 0) (W.getD k [])
def pz(T U:Nat)(bs:List Nat)(W:List (List (List UInt8))):List HP:=(List.range 25).map (rh T U bs W)
def fL(T U:Nat)(bs:List Nat)(W:List (List (List UInt8))):HP:=bD (pz T U bs W)
def gn(T U:Nat)(bs:List Nat)(W:List (List (List UInt8)))(k:Nat):HP:=bD ((pz T U bs W).eraseIdx k)
def fb(bs:List Nat):List Value:=(List.range 25).map λk=>if k%6=0 then .pointer none else .pointer (some ⟨bs.getD k 0,0,none⟩)
theorem I8(bs:List Nat){k:Nat}(h:k<25):(fb bs)[k]?=some (if k%6=0 then .pointer none else .pointer (some ⟨bs.getD k 0,0,none⟩)):=by unfold fb;simp[h]
abbrev eJ(NT T U n:Nat)(W:List (List (List UInt8))):HP:=pack (λbs:List Nat=>[ah n (fb bs) NT,fL T U bs W])
section
variable {T U:Nat} {bs:List Nat} {W:List (List (List UInt8))} {k:Nat} {H:List HP} {h:Hl}
theorem DE:(pz T U bs W).length=25:=by simp[pz]
theorem FB(hk:k<25)(s:bD (fL T U bs W::H) h):bD (rh T U bs W k::gn T U bs W k::H) h:=by
 have s1:bD (pz T U bs W++H) h:=(bZ _ _).2 s;have e:(pz T U bs W).getD k (λ_=>True)=rh T U bs W k:=by simp[pz,List.getD_eq_getElem?_getD,hk]
 have p:=m3 (λ_=>True) (pz T U bs W) k (by rw[DE];exact hk);rw[e]at p;have s2:=ei (p.append_right H) s1;exact cD s2 (λ_ a=>a) λ_ b=>(bZ _ _).1 b
theorem Dy{W':List (List (List UInt8))}(hk:k<25)(hW: ∀j,j≠k→W'.getD j []=W.getD j [])(s:bD (rh T U bs W' k::gn T U bs W k::H) h):bD (fL T U bs W'::H) h:=by
 have e0:(pz T U bs W').eraseIdx k=(pz T U bs W).eraseIdx k:=by
  refine List.ext_getElem? λj=>?_
  rw[List.getElem?_eraseIdx,List.getElem?_eraseIdx]
  have: ∀i,i≠k→(pz T U bs W')[i]?=(pz T U bs W)[i]?:=λi hi=>by
   simp only[pz,List.getElem?_map];cases q:(List.range 25)[i]?with
   |none=>rfl
   |some m=>
    have hm:m=i:=by
     by_cases hi25:i<25
     · simp[hi25]at q;exact q.symm
     · simp[hi25]at q
    subst hm;simp only[Option.map_some,rh,hW m hi]
  split
  · exact this j (by omega)
  · exact this (j+1) (by omega)
 have e:(pz T U bs W').getD k (λ_=>True)=rh T U bs W' k:=by simp[pz,List.getD_eq_getElem?_getD,hk]
 have p:=m3 (λ_=>True) (pz T U bs W') k (by rw[DE];exact hk);rw[e,e0]at p;have s2:bD ((rh T U bs W' k::(pz T U bs W).eraseIdx k)++H) h:=cD s (λ_ a=>a) λ_ b=>(bZ _ _).2 b
 exact(bZ _ _).1 (ei (p.symm.append_right H) s2)
end
def bC(from' to':Int):Nat:=from'.toNat*5+to'.toNat
def gQ(w:Int):Bool:=decide (0≤w∧w<5)
theorem KH{f t:Int}(hf:gQ f=true)(ht:gQ t=true):bC f t<25:=by
 have h1:0≤f∧f<5:=of_decide_eq_true hf;have h2:0≤t∧t<5:=of_decide_eq_true ht;unfold bC;omega
theorem tD{f t:Int}(hf:gQ f=true)(ht:gQ t=true):bC f t%6=0↔f=t:=by
 have h1:0≤f∧f<5:=of_decide_eq_true hf;have h2:0≤t∧t<5:=of_decide_eq_true ht;unfold bC;omega
end Leg
end

section
namespace Wal
open Go Leg Codec Api Dsk
end Wal
namespace Leg
open Go Codec Api
end Leg
namespace Leg
open Go Codec Api
theorem qQ{us:List Value}{ls:List (List UInt8)}{e:Nat}{H:List HP}{F:Hl}{w:World}(i:Nat)(hi:Nat.blt i H.length=true)(hH:H.getD i (λ_=>True)=eD us ls e)(m:Sat H F w):us.length=ls.length∧∀u∈us,u.oneCell'=true:=by
 obtain⟨h,d,e',x⟩:=m;obtain⟨h1,h2,d',rfl,a,_⟩:=eE i (lb hi) x;rw[hH]at a;refine⟨a.1,λu hu=>?_⟩;obtain⟨j,hj,rfl⟩:=eO hu;obtain⟨u,e1,k1,k2,dk,rfl,a3⟩:=xR us ls e _ a.1 a.2 j (by rw[←a.1];exact hj);rw[List.getElem?_eq_getElem hj]at e1;injection e1 with e1
 rw[e1];exact(BN a3 (λb o q=>q):IsB u _ k1).one
section
variable {P:Program} {n:Nat} {D:List Deferred} {L:List (Nat×Value)} {S:World→Prop} {o:Oper}
end
end Leg
namespace Wal
open Go Leg Codec Api Dsk
end Wal
namespace Leg
open Go Codec Api
section
variable {P:Program} {n:Nat} {D:List Deferred} {L:List (Nat×Value)} {S:World→Prop} {o:Oper}
end
theorem Ic{us:List Value}{ls:List (List UInt8)}{e:Nat}{u:Value}{l:List UInt8}{H:List HP}{h:Hl}(s:bD (eD (u::us) (l::ls) e::H) h):bD (gI u l e::eD us ls e::H) h:=by
 obtain⟨h1,h2,d,rfl,⟨hl,a⟩,b⟩:=s;obtain⟨g1,g2,d',rfl,a1,a2⟩:=a;exact mV.1 ⟨_,h2,d,rfl,⟨g1,g2,d',rfl,a1,⟨by simpa using hl,a2⟩⟩,b⟩
def AI(ls:List (List UInt8))(bs:List UInt8):List (List UInt8):=if ls.length<8 then ls++[bs]else ls
def dL(f t:Int):Bool:=gQ f&&gQ t&& !decide (f=t)
def oW(W:List (List (List UInt8)))(f t:Int)(bs:List UInt8):List (List (List UInt8)):=if dL f t then W.set (bC f t) (AI (W.getD (bC f t) []) bs)else W
theorem iv{f t:Int}(h:dL f t=true):bC f t<25∧¬bC f t%6=0:=by
 unfold dL at h;rw[ay,ay]at h;refine⟨KH h.1.1 h.1.2,λq=>?_⟩;have:=(tD h.1.1 h.1.2).1 q;rw[this]at h;simp at h
theorem zL{T U:Nat}{bs:List Nat}{W:List (List (List UInt8))}{k:Nat}(h: ¬k%6=0):rh T U bs W k=ib T U (bs.getD k 0) (W.getD k []):=by unfold rh;rw[if_neg h]
theorem nT{T U:Nat}{bs:List Nat}{W:List (List (List UInt8))}{f t:Int}(hv:dL f t=true){H:List HP}{h:Hl}(s:bD (fL T U bs W::H) h):bD (ib T U (bs.getD (bC f t) 0) (W.getD (bC f t) [])::gn T U bs W (bC f t)::H) h:=by
 obtain⟨h1,h2⟩:=iv hv;have:=FB h1 s
 rwa [zL h2]at this
theorem tC{T U:Nat}{bs:List Nat}{W:List (List (List UInt8))}{f t:Int}{ls:List (List UInt8)}(hv:dL f t=true)(hW:W.length=25){H:List HP}{h:Hl}(s:bD (ib T U (bs.getD (bC f t) 0) ls::gn T U bs W (bC f t)::H) h):bD (fL T U bs (W.set (bC f t) ls)::H) h:=by
 obtain⟨h1,h2⟩:=iv hv;refine Dy (W:=W) h1 (λj hj=>?_) ?_
 · rw[List.getD_eq_getElem?_getD,List.getD_eq_getElem?_getD,List.getElem?_set_ne (λe=>hj e.symm)]
 · rw[zL h2,show(W.set (bC f t) ls).getD (bC f t) []=ls by rw[List.getD_eq_getElem?_getD,List.getElem?_set_self (by omega)];rfl]
   exact s
end Leg
namespace Leg
open Go Codec Api
def b8(w:Int):UInt8:=Wal.r8 w
theorem vQ(w:Int):IntKind.u8.wrap w=(((b8 w).toNat:Nat):Int):=Wal.r8_wrap w
open Go.Conc
section
variable {P:Program} {w0:World} {F:Hl} {n:Nat} {ops:Array Oper} {Q:QQ} {is:List Nat} {D:List Deferred} {L:List (Nat×Value)} {H:List HP} {i d:Nat} {o:Oper}
theorem TX.recv1{x:Operand}{t e:TypeId}{dir:ChanDir}{c cap s r:Nat}{z v:Value}{vs vs0:List Value}(k:Nat)(ho:ops[i]?=some o)(hw:Want n D ops o L)(hop:o.op= .recv t x false)(hd:o.dst=some d)(hn:Nat.blt d n=true)(ht:P.underlying t=some (.chan dir e))(hz:(P.info? e).map (·.zero)=some (some z))
 (hx:cB L x=some (.chan (some c))) (hk:Nat.blt k H.length=true) (hH:H.getD k (λ_=>True)=ee c cap vs0 s r) (he:vs0=v::vs)
 (h:TX P w0 F n ops Q is D ((d,v)::L) (H.set k (ee c cap vs s (r+1)))):TX P w0 F n ops Q (i::is) D L H:=λa w f sm m=>by
 subst he;have hc:=m.chan k hk hH
 have hr:(execOp a.eval o).run P w= .ok (.comm #[{chan:= .chan (some c),send:=none,zero:=z}] true (.recv false)) w:=by
  simp[execOp,hop,f.eval hx,Sem.run_bind,run_underlying ht,n0 hz]
 refine NQ (v:=v) (w2:=w.setChan c cap vs.toArray false s (r+1) false) ho (hw a f) hr (λfr cs es hs=>?_) ?_
 · have:=step_lone_recv_buf false hs hc (by simp)
   rw[this];simp[got]
 · rw[hd]
   exact h _ _ (f.put (lb hn) _) (sm.setChan ..) (m.setChan k hk hH)
theorem TX.send1{x y:Operand}{c cap s r:Nat}{v:Value}{vs:List Value}(k:Nat)(ho:ops[i]?=some o)(hw:Want n D ops o L)(hop:o.op= .send x y)(hd:o.dst=none)
 (hx:cB L x=some (.chan (some c))) (hy:cB L y=some v) (hk:Nat.blt k H.length=true) (hH:H.getD k (λ_=>True)=ee c cap vs s r) (hroom:vs.length<cap)
 (h:TX P w0 F n ops Q is D L (H.set k (ee c cap (vs++[v]) (s+1) r))):TX P w0 F n ops Q (i::is) D L H:=λa w f sm m=>by
 have hc:=m.chan k hk hH
 have hr:(execOp a.eval o).run P w= .ok (.comm #[{chan:= .chan (some c),send:=some v,zero:= .tuple #[]}] true .send) w:=by
  simp[execOp,hop,f.eval hx,f.eval hy,Sem.run]
 refine NQ (v:=undef) (w2:=w.setChan c cap (vs++[v]).toArray false (s+1) r false) ho (hw a f) hr (λfr cs es hs=>?_) ?_
 · have:=step_lone_send_room hs hc (by simpa using hroom)
   rw[this];simp
 · rw[hd]
   exact h _ _ f (sm.setChan ..) (m.setChan k hk hH)
end
def CU(k:Nat)(u:Value):Value:=if k=0 then .slice none 0 0 else u
theorem I1{α:Type}{l:List α}{k:Nat}(h:k<l.length):l.drop k++l.take k=l[k]::(l.drop (k+1)++l.take k):=by rw[dz h];rfl
theorem Ch{α:Type}{l:List α}{k:Nat}(h:k<l.length):(l.drop (k+1)++l.take k)++[l[k]]=l.drop (k+1)++l.take (k+1):=by rw[aS,br h]
end Leg
namespace Leg
open Go
theorem JM{us:List Value}{k:Nat}(h:k=0)(hk:k<us.length):us[k]=CU (k+1) (us.getD 0 undef):=by
 subst h;unfold CU;rw[if_neg (by omega)];simp[List.getD_eq_getElem?_getD,hk]
theorem JK{u:Value}{k:Nat}(h: ¬k=0):CU k u=CU (k+1) u:=by unfold CU;rw[if_neg h,if_neg (by omega)]
theorem JL{u:Value}{k:Nat}(h: ¬k=0):CU k u=u:=if_neg h
end Leg
namespace Leg
open Go
def sC{α:Type}:List α→List α
 | []=>[]
 |a::l=>l++[a]
def IA{α:Type}(l:List α):Bool:=decide (l.length≠0∧l.length≠8)
def D9{α:Type}[Inhabited α](l:List α):List α:=if l.length≠0∧l.length≠8 then l++[l.getD 0 default]else l
end Leg
namespace Leg
open Go
def ll{α:Type}:Nat→List α→List α
 |0,l=>l
 |n+1,l=>sC (ll n l)
theorem GF{α:Type}(l:List α):(sC l).length=l.length:=by cases l<;>simp[sC]
theorem kg{α:Type}: ∀(n:Nat) (l:List α),(ll n l).length=l.length
 |0,_=>rfl
 |n+1,l=>by rw[ll,GF,kg n l]
theorem GE{α:Type}{l:List α}{x:α}:x∈sC l↔x∈l:=by
 cases l with
 |nil=>rfl
 |cons a l=>simp[sC,or_comm]
theorem oJ{α:Type}{x:α}: ∀(n:Nat) (l:List α),x∈ll n l↔x∈l
 |0,_=>Iff.rfl
 |n+1,l=>by rw[ll,GE,oJ n l]
theorem y2{α β:Type}(f:α→β)(l:List α):sC (l.map f)=(sC l).map f:=by cases l<;>simp[sC]
theorem KL{α β:Type}[Inhabited α][Inhabited β](f:α→β)(l:List α):D9 (l.map f)=(D9 l).map f:=by
 unfold D9;rw[bT];split
 · rename_i h
   cases l with
   |nil=>exact absurd rfl h.1
   |cons a l=>simp
 · rfl
theorem KM{α β:Type}(f:α→β)(l:List α):IA (l.map f)=IA l:=by unfold IA;rw[bT]
end Leg
end

section
namespace Api
open Go Leg Codec Dsk Wal
instance :Inhabited MsgT:=⟨.zero⟩
structure LD where
 cnt:Nat
 used:Int
 D:DS
structure DkOk(D:DS):Prop where
 ok:D.Ok
 inn:Wal.DS.In D
 ws:D.ws.length≤2048
 up:D.dn=false→D.ws=[]
def Wrote(D:DS)(n:Nat)(r:Int×DS):Prop:=r.2.Ok∧Wal.DS.In r.2∧((D.dn=true∧r.2=D)∨(D.dn=false∧r.2.ws.length≤D.ws.length+n∧(r.1=0→r.2.dn=false)∧(r.1≠0→r.2.dn=true)))
theorem Wrote.none{D:DS}(h:D.Ok)(hi:Wal.DS.In D):Wrote D 0 (0,D):=⟨h,hi,by
 cases hd:D.dn
 · exact .inr ⟨rfl,aL _,λ_=>by first|exact hd|rfl,λq=>absurd rfl q⟩
 · exact .inl ⟨rfl,rfl⟩⟩
theorem Wrote.more{D:DS}{n m:Nat}{r:Int×DS}(h:Wrote D n r)(hm:n≤m):Wrote D m r:=⟨h.1,h.2.1,h.2.2.imp id λ⟨a,b,c⟩=>⟨a,by omega,c⟩⟩
theorem Wrote.one{D:DS}(h:D.Ok)(hi:Wal.DS.In D){at':Int}{bs:List UInt8}(h1:0≤at'∧at'<2048)(h2:bs.length≤64):Wrote D 1 (D.write at' bs):=by
 cases hd:D.dn
 · by_cases hc:D.ar=true∧D.lf=0
   · rw[D3 h1 h2 hc]
     exact⟨⟨h.s,h.ws,h.lf⟩,hi, .inr ⟨hd,Nat.le_succ _,(λq=>absurd q (by show ¬(4:Int)=0;decide)),λ_=>rfl⟩⟩
   · have h4:D.ar=false∨0<D.lf:=by
      have:=h.lf;cases q:D.ar
      · exact .inl rfl
      · right
        have:D.lf≠0:=λe=>hc ⟨q,e⟩
        omega
     rw[rl h1 h2 hd h4];exact⟨FY h h2 h4,FZ hi h1, .inr ⟨hd,by simp[AH],λ_=>rfl,λq=>absurd rfl q⟩⟩
 · have e:D.write at' bs=(4,D):=by
    rw[DS.write,if_neg (by omega),if_pos (.inl hd)];cases D;simp only at hd;rw[hd]
   rw[e];exact⟨h,hi, .inl ⟨hd,rfl⟩⟩
theorem Wrote.then{D:DS}{n m:Nat}{r q:Int×DS}(h:Wrote D n r)(h0:r.1=0)(g:Wrote r.2 m q):Wrote D (n+m) q:=by
 obtain⟨_,_,h⟩:=h;refine⟨g.1,g.2.1,?_⟩;rcases h with⟨hd,e⟩| ⟨hd,hl,hz,_⟩
 · rw[e]at g
   rcases g.2.2 with⟨_,e2⟩| ⟨hd2,_⟩
   · exact .inl ⟨hd,e2⟩
   · rw[hd]at hd2;cases hd2
 · rcases g.2.2 with⟨hd2,_⟩| ⟨_,hl2,h3⟩
   · rw[hz h0]at hd2;cases hd2
   · exact .inr ⟨hd,by omega,h3⟩
theorem Wrote.writes: ∀(ss:List jP) (at':Int) (D:DS),D.Ok→Wal.DS.In D→0≤at'→at'+ss.length≤2048→(∀s∈ss,s.length=64)→Wrote D ss.length (gv ss at' D)
 | [],_,D,h,hi,_,_,_=>Wrote.none h hi
 |s::ss,at',D,h,hi,h0,h1,hs=>by
  simp only[am]at h1;have h2:=hs s (by simp);have o:=Wrote.one h hi (at':=at') (bs:=s) (by omega) (by omega);rw[gv];split
  · rename_i hz
    have:=o.then hz (Wrote.writes ss (at'+1) _ o.1 o.2.1 (by omega) (by omega) λx hx=>hs x (by simp[hx]))
    rwa [jr]at this
  · exact o.more (by simp)
theorem Wrote.wipes: ∀(n:Nat) (at':Int) (D:DS),D.Ok→Wal.DS.In D→0≤at'→at'+n≤2048→Wrote D n (jD n at' D)
 |0,_,D,h,hi,_,_=>Wrote.none h hi
 |n+1,at',D,h,hi,h0,h1=>by
  rw[jD];split
  · exact(Wrote.wipes n (at'+1) D h hi (by omega) (by omega)).more (by omega)
  · have o:=Wrote.one h hi (at':=at') (bs:=[]) (by omega) (by simp)
    split
    · rename_i hz
      have:=o.then hz (Wrote.wipes n (at'+1) _ o.1 o.2.1 (by omega) (by omega))
      rwa [jr]at this
    · exact o.more (by omega)
theorem DkOk.wrote{D:DS}(h:DkOk D){n:Nat}{r:Int×DS}(g:Wrote D n r)(hn:n≤2048):(r.1≠0→DkOk r.2)∧DkOk r.2.sync.2:=by
 obtain⟨ho,hi,hr⟩:=g;rcases hr with⟨hd,e⟩| ⟨hd,hl,h0,h1⟩
 · rw[e]
   refine⟨λ_=>h,?_⟩;rw[DS.sync,if_pos hd];exact h
 · rw[h.up hd]at hl
   simp only[aw,bf]at hl;refine⟨λq=>⟨ho,hi,by omega,λz=>by rw[h1 q]at z;cases z⟩,?_⟩
   by_cases q:r.1=0
   · obtain⟨_,s2,_⟩:=tL (h0 q)
     exact⟨DS.sync_ok ho,FQ hi,by rw[s2];exact aM _,λ_=>s2⟩
   · rw[DS.sync,if_pos (h1 q)]
     exact⟨ho,hi,by show r.2.ws.length≤2048;omega,λz=>by rw[show r.2.dn=true from h1 q]at z;cases z⟩
theorem wK{D:DS}(hI:Wal.DS.In D)(hD:D.Ok): ∀(f:Nat) (cnt used:Int),0≤used→used≤2048→0≤(fV D.read f cnt used).2∧(fV D.read f cnt used).2≤2048∧(fV D.read f cnt used).1.length≤f
 |0,_,_,h0,h1=>⟨h0,h1,aL _⟩
 |f+1,cnt,used,h0,h1=>by
  rw[fV];split
  · exact⟨h0,h1,aM _⟩
  · rename_i b all h
    have h2:=oM hI hD h0 h;have h3:=(lx (l9 hD _) h).1;obtain⟨a,b',c⟩:=wK hI hD f (cnt+1) (used+all) (by omega) h2;exact⟨a,b',by simp only[am];omega⟩
theorem DkOk.open{D:DS}(h:DkOk D):DkOk (bP D).D∧0≤(bP D).used∧(bP D).used≤2048∧(bP D).recs.length≤2049:=by
 obtain⟨a,b,c⟩:=wK h.inn h.ok jm 0 0 (by omega) (by omega);rw[s6]at c;have w:=h.wrote (Wrote.wipes (2048- (fV D.read jm 0 0).2).toNat _ D h.ok h.inn a (by omega)) (by omega);unfold bP;simp only;split
 · rename_i q;exact⟨w.1 q,by show(0:Int)≤0;omega,by show(0:Int)≤2048;omega,aM _⟩
 · split
   · exact⟨w.2,by show(0:Int)≤0;omega,by show(0:Int)≤2048;omega,aM _⟩
   · exact⟨w.2,a,b,by rw[←s6]at c;exact c⟩
theorem DkOk.arm{D:DS}(h:DkOk D)(n:Int)(hn:n≤9223372036854775807):DkOk (D.arm n):=⟨⟨h.ok.s,h.ok.ws,by show 0≤max n 0∧max n 0≤9223372036854775807;omega⟩,h.inn,h.ws,h.up⟩
theorem DkOk.crash{D:DS}(h:DkOk D)(mask torn cut:Int):DkOk (D.crash mask torn cut):=by
 have c:=Calm.crash h.ok h.inn mask torn cut;exact⟨c.ok,c.inn,aM _,λ_=>rfl⟩
theorem DkOk.new:DkOk .new:=⟨⟨mH,mH,by simp[DS.new],by simp[DS.new]⟩,⟨Q0,Q0⟩,aM _,λ_=>rfl⟩
structure LD.Ok(e:LD):Prop where
 dk:DkOk e.D
 used:0≤e.used∧e.used≤2048
 cnt:(e.cnt:Int)≤4100+e.used
def LD.put(e:LD)(bs:List UInt8):LD×Int:=(⟨(n7 e.D e.cnt e.used bs).cnt,(n7 e.D e.cnt e.used bs).used,(n7 e.D e.cnt e.used bs).D⟩,(n7 e.D e.cnt e.used bs).err)
theorem LD.put_ok(e:LD)(bs:List UInt8)(h:e.Ok)(hb:bs.length≤3000):(e.put bs).1.Ok:=by
 obtain⟨⟨ho,hi,hw,hu⟩,h1,h2⟩:=h;unfold LD.put n7;rw[if_neg (by omega)]
 by_cases hf:(bE bs.length:Int)>2048-e.used
 · rw[if_pos hf];exact⟨⟨ho,hi,hw,hu⟩,h1,h2⟩
 rw[if_neg hf];have hp:0<bE bs.length:=p9 _;have hl:(cu ((e.cnt+1:Nat):Int) bs).length=bE bs.length:=eF _ _;have w:=DkOk.wrote ⟨ho,hi,hw,hu⟩ (Wrote.writes (cu ((e.cnt+1:Nat):Int) bs) e.used e.D ho hi h1.1 (by omega) (At _ _)) (by omega);simp only;split
 · rename_i q;exact⟨w.1 q,h1,h2⟩
 · split
   · exact⟨w.2,h1,h2⟩
   · exact⟨w.2,(by show 0≤e.used+(bE bs.length:Int)∧e.used+(bE bs.length:Int)≤2048;omega),by show((e.cnt+1:Nat):Int)≤4100+(e.used+bE bs.length);omega⟩
def KD:Dk LD:=⟨LD.put,λe=>e.D.dn,LD.Ok,LD.put_ok⟩
structure Slot where
 run:Option (MS LD)
 D:DS
 past:List ReplyT
structure CL where
 ms:List Slot
 W:List (List MsgT)
def Slot.nil:Slot:=⟨none, .new,[]⟩
def CL.at'(a:CL)(i:Nat):Slot:=a.ms.getD i .nil
def Slot.dk(x:Slot):DS:=match x.run with
 |some s=>s.e.D
 |none=>x.D
def Slot.reps(x:Slot):List ReplyT:=x.past++(match x.run with
 |some s=>s.replies
 |none=>[])
def Slot.up(x:Slot):Bool:=match x.run with
 |some s=> !s.e.D.dn
 |none=>false
def CL.set(a:CL)(i:Nat)(x:Slot):CL:= {a with ms:=a.ms.set i x}
def sP(W:List (List MsgT))(f:Nat)(s:SaidT):List (List MsgT):=if dL ((f:Nat):Int) s.to' then W.set (bC ((f:Nat):Int) s.to') (if(W.getD (bC ((f:Nat):Int) s.to') []).length<8 then W.getD (bC ((f:Nat):Int) s.to') []++[s.msg]else W.getD (bC ((f:Nat):Int) s.to') [])else W
def gJ(W:List (List MsgT))(f:Nat)(l:List SaidT):List (List MsgT):=l.foldl (λW s=>sP W f s) W
def MS.hush{δ:Type}(s:MS δ):MS δ:= {s with o:=[]}
def CL.did(a:CL)(i:Nat)(s:MS LD):CL:=⟨a.ms.set i {a.at' i with run:=some s.hush},gJ a.W i s.o⟩
def MS.dsk(s:MS LD)(D:DS):MS LD:= {s with e:= {s.e with D:=D}}
def vu(x:Slot)(n:Int):Slot:=match x.run with
 |some s=> {x with run:=some (s.dsk (s.e.D.arm n))}
 |none=> {x with D:=x.D.arm n}
def nM(x:Slot)(mask torn cut:Int):Slot:=⟨none,x.dk.crash mask torn cut,x.reps⟩
def cO(i:Nat)(D:DS):Option (MS LD)×Int:=
 if(bP D).err≠0 then(none,(bP D).err)
 else match lL (bP D).recs (Cu ((i:Nat):Int) (⟨(bP D).recs.length,(bP D).used,(bP D).D⟩:LD))with
  |none=>(none,1)
  |some s=>(some s,0)
def g8(i:Nat)(x:Slot):Slot×Int:=match x.run with
 |some _=>(x,5)
 |none=>({x with run:=(cO i x.D).1,D:=(bP x.D).D},(cO i x.D).2)
def ti(a:CL)(f t:Nat)(m:MsgT):CL×Int:=match(a.at' t).run with
 |none=>(a,0)
 |some s=>if s.e.D.dn then(a,0)else if(iR (dR m)).2=0 then(a.did t (gj KD s ((f:Nat):Int) (iR (dR m)).1),0)else(a,(iR (dR m)).2)
def CL.way(a:CL)(k:Nat)(l:List MsgT):CL:= {a with W:=a.W.set k l}
def oF(a:CL)(o:OpT):CL×Int:=
 if dL o.at' o.to'=false then(a,5)
 else match a.W.getD (bC o.at' o.to') []with
  | []=>(a,10)
  |m::l=>
   if o.kind=7 then(if IA (m::l)then(a.way (bC o.at' o.to') (D9 (m::l)),0)else(a,3))
   else match ll (max o.n 0% ((m::l).length:Int)).toNat (m::l)with
    | []=>(a,0)
    |m::l=>if o.kind=6 then(a.way (bC o.at' o.to') l,0)else ti (a.way (bC o.at' o.to') l) o.at'.toNat o.to'.toNat m
def Dr(a:CL)(i:Nat)(o:OpT):CL×Int:=match(a.at' i).run with
 |none=>(a,4)
 |some s=>if s.e.D.dn then(a,4)else(a.did i (bV KD s o).1,(bV KD s o).2)
def BG(a:CL)(i:Nat):CL×Int:=match(a.at' i).run with
 |none=>(a,4)
 |some s=>if s.e.D.dn then(a,4)else(a.did i (iw KD s),0)
def zA(a:CL)(o:OpT):CL×Int:=
 if gQ o.at'=false then(a,5)
 else if 0≤o.kind∧o.kind≤4 then Dr a o.at'.toNat o
 else if o.kind=5∨o.kind=6∨o.kind=7 then oF a o
 else if o.kind=8 then BG a o.at'.toNat
 else if o.kind=9 then(a.set o.at'.toNat (vu (a.at' o.at'.toNat) o.n),0)
 else if o.kind=10 then(a.set o.at'.toNat (nM (a.at' o.at'.toNat) o.mask o.torn o.cut),0)
 else if o.kind=11 then(a.set o.at'.toNat (g8 o.at'.toNat (a.at' o.at'.toNat)).1,(g8 o.at'.toNat (a.at' o.at'.toNat)).2)
 else(a,5)
def gy(a:CL)(l:List OpT):CL:=l.foldl (λa o=>(zA a o).1) a
def mA(i:Nat):Slot:=(g8 i .nil).1
def CL.new:CL:=⟨(List.range 5).map mA,List.replicate 25 []⟩
structure Fresh{δ:Type}(i:Int)(e:δ)(s:MS δ):Prop where
 id:s.id=i
 vote:s.vote=none
 replies:s.replies=[]
 e:s.e=e
 o:s.o=[]
 waits:s.waits=0
 ops:s.ops=0
theorem Fresh.rest{δ:Type}{i:Int}{e:δ}{s:MS δ}(h:Fresh i e s)(m:RecT):Fresh i e (jG s m):=by
 obtain⟨h1,h2,h3,h4,h5,h6,h7⟩:=h;unfold jG
 repeat' split
 all_goals exact⟨h1,by first|exact h2|rfl,h3,h4,h5,h6,h7⟩
theorem Fresh.new{δ:Type}(i:Int)(e:δ):Fresh i e (Cu i e):=⟨rfl,rfl,rfl,rfl,rfl,rfl,rfl⟩
abbrev DY:= @Fresh.new
theorem Fresh.read{δ:Type}{i:Int}{e:δ}: ∀(l:List (List UInt8)) {s s':MS δ},Fresh i e s→lL l s=some s'→Fresh i e s'
 | [],s,s',h,q=>by
  obtain rfl:=cY q;exact h
 |b::l,s,s',h,q=>by
  rw[lL]at q;split at q
  · cases q
  · exact Fresh.read l (h.rest _) q
abbrev tw:= @Fresh.read
theorem kr{i:Nat}{D:DS}{s:MS LD}(h:(cO i D).1=some s):(bP D).err=0∧lL (bP D).recs (Cu ((i:Nat):Int) (⟨(bP D).recs.length,(bP D).used,(bP D).D⟩:LD))=some s:=by
 unfold cO at h;split at h
 · cases h
 · rename_i h0
   refine⟨Decidable.not_not.1 h0,?_⟩;split at h
   · cases h
   · rename_i h2;rw[h2];exact h
theorem Ab{v:ViewT}{bs r:List UInt8}(h:mP bs=some (v,r)):OkVw v:=by
 obtain⟨⟨h1,h2,_⟩,_⟩:=tF h;have hr:=sx h;exact⟨hr,D7 ⟨by omega,by omega⟩ ⟨by omega,by omega⟩ hr⟩
theorem qR{b:BallotT}{bs r:List UInt8}(h:ke bs=some (b,r)):WF b.flat:=by
 obtain⟨⟨h1,h2⟩,_⟩:=qw h;exact OkB.wf ⟨h1,h2⟩
theorem Fx{c:ChangeT}{bs r:List UInt8}(h:lD bs=some (c,r)):WF c.flat:=by
 obtain⟨⟨h1,h2,h3⟩,_⟩:=u9 h;exact OkC.wf ⟨h1,h2,h3⟩
theorem Et{x:RowT}{bs r:List UInt8}(h:vj bs=some (x,r)):OkRow x:=OkRow.of (Ax h)
theorem No{m:MsgT}{g:Bool}{bs r:List UInt8}(h:cR bs=some ((m,g),r)):OkMg m:=by
 obtain⟨k,r1,_,h⟩:=bL h
 have fin: ∀{m':MsgT} {g':Bool} {b r:List UInt8},pr (m',g') b=some ((m,g),r)→OkMg m'→OkMg m:=λh q=>by
  obtain⟨e,_⟩:=ij h;injection e with e1 e2
  exact e1▸q
 split at h
 · obtain⟨_,_,_,h⟩:=bL h;obtain⟨x,_,hx,h⟩:=bL h;exact fin h ⟨Et hx, .zero,gR,gR,py⟩
 split at h
 · obtain⟨_,_,_,h⟩:=bL h;exact fin h ⟨.zero, .zero,gR,gR,py⟩
 split at h
 · obtain⟨_,_,_,h⟩:=bL h;obtain⟨b,_,hb,h⟩:=bL h;exact fin h ⟨.zero, .zero,qR hb,gR,py⟩
 split at h
 · obtain⟨_,_,_,h⟩:=bL h;obtain⟨b,_,hb,h⟩:=bL h;obtain⟨d,_,hd,h⟩:=bL h;obtain⟨c,_,hc,h⟩:=bL h;exact fin h ⟨.zero, .zero,qR hb,qR hd,Fx hc⟩
 split at h
 · obtain⟨_,_,_,h⟩:=bL h;obtain⟨b,_,hb,h⟩:=bL h;obtain⟨c,_,hc,h⟩:=bL h;exact fin h ⟨.zero, .zero,qR hb,gR,Fx hc⟩
 split at h
 · obtain⟨v,_,hv,h⟩:=bL h;exact fin h ⟨.zero,Ab hv,gR,gR,py⟩
 split at h
 · obtain⟨_,_,_,h⟩:=bL h;obtain⟨v,_,hv,h⟩:=bL h;exact fin h ⟨.zero,Ab hv,gR,gR,py⟩
 · exact fin h ⟨.zero, .zero,gR,gR,py⟩
class OkRd(m:RecT):Prop where
 row:OkRow m.row
 view:OkVw m.view
 ballot:WF m.ballot.flat
 change:WF m.change.flat
theorem M2{m:RecT}{g:Bool}{bs r:List UInt8}(h:dx bs=some ((m,g),r)):OkRd m:=by
 obtain⟨k,r1,_,h⟩:=bL h
 have fin: ∀{m':RecT} {g':Bool} {b r:List UInt8},pr (m',g') b=some ((m,g),r)→OkRd m'→OkRd m:=λh q=>by
  obtain⟨e,_⟩:=ij h;injection e with e1 e2
  exact e1▸q
 split at h
 · obtain⟨x,_,hx,h⟩:=bL h;exact fin h ⟨Et hx, .zero,gR,py⟩
 split at h
 · obtain⟨_,_,_,h⟩:=bL h;obtain⟨x,_,hx,h⟩:=bL h;exact fin h ⟨Et hx, .zero,gR,py⟩
 split at h
 · obtain⟨_,_,_,h⟩:=bL h;exact fin h ⟨.zero, .zero,gR,py⟩
 split at h
 · obtain⟨_,_,_,h⟩:=bL h;obtain⟨b,_,hb,h⟩:=bL h;exact fin h ⟨.zero, .zero,qR hb,py⟩
 split at h
 · obtain⟨_,_,_,h⟩:=bL h;obtain⟨b,_,hb,h⟩:=bL h;obtain⟨c,_,hc,h⟩:=bL h;exact fin h ⟨.zero, .zero,qR hb,Fx hc⟩
 split at h
 · obtain⟨v,_,hv,h⟩:=bL h;exact fin h ⟨.zero,Ab hv,gR,py⟩
 · exact fin h ⟨.zero, .zero,gR,py⟩
theorem Gl(bs:List UInt8):OkMg (iR bs).1:=by
 unfold iR;split
 · rename_i m h;exact No h
 · exact⟨.zero, .zero,gR,gR,py⟩
theorem LH(bs:List UInt8):OkRd (oo bs).1:=by
 unfold oo;split
 · rename_i m h;exact M2 h
 · exact⟨.zero, .zero,gR,py⟩
section
variable {δ:Type} {K:Dk δ} {s:MS δ}
theorem KU(h:OkR K s)(m:RecT)(hm:OkRd m):OkR K (jG s m):=by
 have ha:OkAc s.acc:=⟨h.acc⟩;unfold jG;split
 · exact⟨h.e,h.id,h.view,hm.row,h.mir,h.book,h.last,h.acc,h.vote⟩
 split
 · have:=hm.row;exact inferInstance
 split
 · exact inferInstance
 split
 · exact⟨h.e,h.id,h.view,h.own,h.mir,h.book,h.last,mc (mc (mc ha.epoch hm.ballot) ha.had) ha.change,h.vote⟩
 split
 · exact⟨h.e,h.id,h.view,h.own,h.mir,h.book,h.last,mc (mc (mc ha.epoch hm.ballot) hm.ballot) hm.change,h.vote⟩
 split
 · have:=hm.view;exact inferInstance
 · exact h
theorem Ac{v:Vector RowT 5}(h:v= #v[.zero, .zero, .zero, .zero, .zero])(i:Nat)(hi:i<5):OkRow v[i]:=by
 subst h
 match i,hi with
 |0,_|1,_|2,_|3,_|4,_=>exact OkRow.zero
theorem Lo{i:Int}{e:δ}(he:K.ok e)(hi:cM i=true):OkR K (Cu i e):=
 ⟨he,hi, .first, .zero,Ac rfl,Ac rfl,Ac rfl,Pe _ (by decide),λ_ q=>nomatch q⟩
theorem Ck: ∀(l:List (List UInt8)) {s s':MS δ},OkR K s→lL l s=some s'→OkR K s'
 | [],s,s',h,q=>by
  obtain rfl:=cY q;exact h
 |b::l,s,s',h,q=>by
  rw[lL]at q;split at q
  · cases q
  · exact Ck l (KU h _ (LH b)) q
theorem tM{i:Nat}(hi:i<5){D:DS}(hD:DkOk D){s:MS LD}(h:(cO i D).1=some s):OkR KD s∧Fresh ((i:Nat):Int) (⟨(bP D).recs.length,(bP D).used,(bP D).D⟩:LD) s:=by
 obtain⟨_,h2⟩:=kr h;obtain⟨o1,o2,o3,o4⟩:=hD.open;exact⟨Ck _ (Lo (K:=KD) ⟨o1,⟨o2,o3⟩,by show(((bP D).recs.length:Nat):Int)≤4100+(bP D).used;omega⟩ (decide_eq_true ⟨by omega,by omega⟩)) h2,tw _ (DY _ _) h2⟩
end
class GdM(m:MsgT):Prop where
 kind:0≤m.kind∧m.kind≤9
class GdL(l:List SaidT):Prop where
 all: ∀x∈l,0≤x.msg.kind∧x.msg.kind≤9
theorem JQ(n:Int):0< (vm n).length:=qm _
theorem C2(n:Int)(l:List Int):0< (bj (n::l)).length:=by
 show 0< (vm n++bj l).length;rw[ae];have:=JQ n;omega
theorem Nt{m:MsgT}(h:0≤m.kind∧m.kind≤9):0< (dR m).length:=by
 have p: ∀(l:List Int) (r:List UInt8),0< (bj (m.kind::l)++r).length:=λl r=>by rw[ae];have:=C2 m.kind l;omega
 unfold dR;split
 · exact p _ _
 rename_i h0;split
 · exact C2 _ _
 split
 · exact p _ _
 rename_i h3;split
 · rw[aS,aS];exact p _ _
 split
 · rw[aS];exact p _ _
 split
 · exact p _ _
 split
 · exact p _ _
 · exfalso
   simp only[fc,fk,decide_eq_true_eq]at h0 h3;omega
instance (v:Int):GdM (s5 v):=⟨(by decide:(0:Int)≤1∧(1:Int)≤9)⟩
instance (i:Int)(y:RowT):GdM (sT i y):=⟨(by decide:(0:Int)≤2∧(2:Int)≤9)⟩
instance (v:ViewT):GdM (ka v):=⟨(by decide:(0:Int)≤7∧(7:Int)≤9)⟩
instance (i:Int)(v:ViewT):GdM (oO i v):=⟨(by decide:(0:Int)≤8∧(8:Int)≤9)⟩
instance (i:Int)(y:RowT):GdM (g9 i y):=⟨(by decide:(0:Int)≤9∧(9:Int)≤9)⟩
instance (e:Int)(b:BallotT):GdM (fB e b):=⟨(by decide:(0:Int)≤3∧(3:Int)≤9)⟩
instance (e:Int)(b h:BallotT)(c:ChangeT):GdM (kT e b h c):=⟨(by decide:(0:Int)≤4∧(4:Int)≤9)⟩
instance (e:Int)(b:BallotT)(c:ChangeT):GdM (je e b c):=⟨(by decide:(0:Int)≤5∧(5:Int)≤9)⟩
instance (e:Int)(b:BallotT):GdM (jR e b):=⟨(by decide:(0:Int)≤6∧(6:Int)≤9)⟩
instance (t:Int)(m:MsgT)[h:GdM m]:GdL [⟨t,m⟩]:=⟨λx hx=>by rw[cG]at hx;subst hx;exact h.kind⟩
instance (i:Int)(m:MsgT)(p:Nat→Bool)(k:Nat)[h:GdM m]:GdL (oa i m p k):=⟨λx hx=>by
 unfold oa at hx;obtain⟨j,_,rfl⟩:=eB.1 hx
 exact h.kind⟩
instance (x:RepT):GdL (pU x):=⟨λs hs=>by
 unfold pU at hs;rw[eB]at hs;obtain⟨w,_,rfl⟩:=hs
 exact(show(0:Int)≤0∧(0:Int)≤9 by decide)⟩
section
variable {δ:Type} {K:Dk δ} {s0 s:MS δ}
class Qt(s0 s:MS δ):Prop where
 id:s.id=s0.id
 replies:s.replies=s0.replies
 ops:s.ops=s0.ops
 waits:s.waits=s0.waits∨s.waits=0
 o: ∃l,s.o=s0.o++l∧∀x∈l,0≤x.msg.kind∧x.msg.kind≤9
instance Qt.rfl':Qt s s:=⟨rfl,rfl,rfl, .inl rfl,[],(aP _).symm,λ_ h=>by cases h⟩
theorem Qt.trans{a b c:MS δ}(h:Qt a b)(g:Qt b c):Qt a c:=by
 obtain⟨l,e,hl⟩:=h.o;obtain⟨l2,e2,hl2⟩:=g.o;exact⟨g.id.trans h.id,g.replies.trans h.replies,g.ops.trans h.ops,g.waits.elim (λq=>h.waits.imp (q.trans ·) (q.trans ·)) .inr,l++l2,by rw[e2,e,aS],λx hx=>(ci.1 hx).elim (hl x) (hl2 x)⟩
theorem Qt.same{t:MS δ}(h:Qt s0 s)(h1:t.id=s.id)(h2:t.replies=s.replies)(h3:t.ops=s.ops)(h4:t.waits=s.waits)(h5:t.o=s.o):Qt s0 t:=
 ⟨h1.trans h.id,h2.trans h.replies,h3.trans h.ops,by rw[h4];exact h.waits,by rw[h5];exact h.o⟩
instance [h:Qt s0 s](l:List SaidT)[g:GdL l]:Qt s0 (iP K s l):=by
 refine h.trans ⟨rfl,rfl,rfl, .inl rfl,?_⟩
 by_cases q:K.dn s.e=true
 · exact⟨[],by rw[iP,if_pos q,aP],λ_ h=>by cases h⟩
 · exact⟨l,by rw[iP,if_neg q],g.all⟩
instance [h:Qt s0 s](t:Int)(m:MsgT)[GdM m]:Qt s0 (Es K s t m):=inferInstanceAs (Qt s0 (iP K s _))
instance [h:Qt s0 s](r:RecT):Qt s0 (ej K s r):=h.same rfl rfl rfl rfl rfl
instance [h:Qt s0 s](f:Int):Qt s0 (iN s f):=h.same rfl rfl rfl rfl rfl
instance [h:Qt s0 s](w:Int)(x:RowT):Qt s0 (Gp s w x):=h.same rfl rfl rfl rfl rfl
instance [h:Qt s0 s]:Qt s0 (gP s):=h.same rfl rfl rfl rfl rfl
instance [h:Qt s0 s](w:Int)(x:RowT):Qt s0 (iM s w x):=h.same rfl rfl rfl rfl rfl
instance [h:Qt s0 s](w:Int):Qt s0 (mg s w):=h.same rfl rfl rfl rfl rfl
instance [h:Qt s0 s](x:RowT):Qt s0 (uY s x 0):=⟨h.id,h.replies,h.ops, .inr rfl,h.o⟩
instance [Qt s0 s]:Qt s0 (fp K s):=inferInstanceAs (Qt s0 (iP K s _))
instance [Qt s0 s](y:RowT):Qt s0 (mI K s y):=inferInstanceAs (Qt s0 (iP K s _))
instance [Qt s0 s](v:ViewT):Qt s0 (nW K s v):=inferInstanceAs (Qt s0 (iP K s _))
instance [Qt s0 s](m:MsgT)[GdM m]:Qt s0 (jM K s m):=inferInstanceAs (Qt s0 (iP K s _))
instance [Qt s0 s](x:RowT):Qt s0 (eS K s x 0).1:=by unfold eS;split<;>exact inferInstance
instance [h:Qt s0 s]:Qt s0 (nd K s):=by
 unfold nd;split
 · exact h
 split
 · exact inferInstance
 · exact h
instance [h:Qt s0 s](f:Int)(m:MsgT):Qt s0 (ja K s f m):=by
 unfold ja
 repeat' split
 all_goals exact inferInstance
instance [h:Qt s0 s](w:Int)(x:RowT):Qt s0 (lV s w x):=h.same rfl rfl rfl rfl rfl
instance [h:Qt s0 s](f w:Int)(y:RowT):Qt s0 (wi s f w y):=h.same rfl rfl rfl rfl rfl
instance [h:Qt s0 s](f:Int)(m:MsgT):Qt s0 (gd K s f m):=by unfold gd;split<;>exact inferInstance
theorem p2[Qt s0 s]{f:MS δ→MS δ}(hf:Qt s0 (f s))(t:Int)(m:MsgT)[GdM m]:Qt s0 (nz K f s t m):=by unfold nz;split;exact hf;exact inferInstance
instance [h:Qt s0 s](f w:Int):Qt s0 (fz K s f w):=by
 unfold fz
 repeat' split
 · exact h
 · exact p2 inferInstance _ _
 · exact inferInstance
 · exact p2 inferInstance _ _
instance [h:Qt s0 s](i w:Int):Qt s0 (hX K s i w):=by
 unfold hX;split
 · exact h
 · exact p2 inferInstance _ _
instance [Qt s0 s](i:Int):Qt s0 (qq K s i):=by unfold qq;exact inferInstance
theorem zF: ∀(l:List Int) (s:MS δ),Qt s0 s→Qt s0 (fZ K l s)
 | [],_,h=>h
 |i::l,s,h=>zF l (qq K s i) inferInstance
instance [h:Qt s0 s]:Qt s0 (rT K s):=zF _ _ h
instance [h:Qt s0 s](v:ViewT):Qt s0 (nb s v):=h.same rfl rfl rfl rfl rfl
instance [h:Qt s0 s](v:ViewT):Qt s0 (il K s v):=by
 unfold il
 repeat' split
 all_goals exact inferInstance
instance [h:Qt s0 s](f:Int)(m:MsgT):Qt s0 (mJ K s f m):=by unfold mJ;exact inferInstance
instance [h:Qt s0 s](c:ChangeT):Qt s0 (lC K s c):=by
 unfold lC
 repeat' split
 all_goals exact inferInstance
instance [h:Qt s0 s](n:Int):Qt s0 (dv s n):=h.same rfl rfl rfl rfl rfl
instance [h:Qt s0 s](v:VoteT):Qt s0 (lE s v):=h.same rfl rfl rfl rfl rfl
instance [h:Qt s0 s](a:AccT):Qt s0 (xZ s a):=h.same rfl rfl rfl rfl rfl
instance [h:Qt s0 s](f:Int)(m:MsgT):Qt s0 (lF K f m s):=by
 unfold lF;split
 · exact h
 · split<;>exact inferInstance
theorem sv[h:Qt s0 s]{f:MS δ→MS δ}(hf: ∀s:MS δ,Qt s0 s→Qt s0 (f s))(w:Int)(m:MsgT):Qt s0 (eR K f s w m):=by
 unfold eR
 repeat' split
 · exact inferInstance
 · exact h
 · exact h
 · exact hf _ inferInstance
instance [Qt s0 s](w:Int)(m:MsgT):Qt s0 (rA K s w m):=sv (λ_ _=>inferInstance) w m
instance [h:Qt s0 s](w:Int)(m:MsgT):Qt s0 (n6 K w m s):=by unfold n6;exact p2 inferInstance _ _
instance [h:Qt s0 s](w:Int)(m:MsgT):Qt s0 (pn K w m s):=by
 unfold pn
 repeat' split
 all_goals exact inferInstance
instance [Qt s0 s](w:Int)(m:MsgT):Qt s0 (tH K s w m):=sv (λ_ _=>inferInstance) w m
theorem uO[h:Qt s0 s]{f:MS δ→MsgT→MS δ}{m:MsgT}[GdM m](hf: ∀s:MS δ,Qt s0 s→Qt s0 (f s m)):Qt s0 (jT K f s m):=by
 unfold jT;split
 · exact hf _ inferInstance
 · exact inferInstance
instance [h:Qt s0 s](vt:VoteT):Qt s0 (kU K s vt):=uO λ_ _=>inferInstance
instance [h:Qt s0 s](f:Int)(m:MsgT):Qt s0 (pS K f m s):=by
 unfold pS;split
 · exact h
 · split<;>exact inferInstance
instance [Qt s0 s](w:Int)(m:MsgT):Qt s0 (rC K s w m):=sv (λ_ _=>inferInstance) w m
instance [h:Qt s0 s](w:Int)(m:MsgT)(a:AccT):Qt s0 (ox K w m a s):=by unfold ox;exact p2 inferInstance _ _
instance [h:Qt s0 s](w:Int)(m:MsgT):Qt s0 (qy K w m s):=by
 unfold qy
 repeat' split
 all_goals exact inferInstance
instance [Qt s0 s](w:Int)(m:MsgT):Qt s0 (tI K s w m):=sv (λ_ _=>inferInstance) w m
instance [h:Qt s0 s](vt:VoteT):Qt s0 (mZ K s vt):=uO λ_ _=>inferInstance
instance [h:Qt s0 s](vt:VoteT):Qt s0 (n9 K s vt):=by unfold n9;split<;>exact inferInstance
instance [h:Qt s0 s](c:ChangeT):Qt s0 (rX K s c):=by unfold rX;exact inferInstance
instance [h:Qt s0 s](c:ChangeT):Qt s0 (cp K s c).1:=by
 unfold cp
 repeat' split
 all_goals exact inferInstance
instance [h:Qt s0 s]:Qt s0 (bY K s):=by unfold bY;split<;>exact inferInstance
instance [h:Qt s0 s]:Qt s0 (cf K s):=by unfold cf;split<;>exact inferInstance
instance [h:Qt s0 s]:Qt s0 (gi K s):=by unfold gi;split<;>exact inferInstance
instance [h:Qt s0 s]:Qt s0 (sE K s):=by
 unfold sE;split
 · exact h
 · repeat' split
   all_goals exact inferInstance
instance [h:Qt s0 s]:Qt s0 (iw K s):=by unfold iw;split<;>exact inferInstance
structure Rp(s0 s:MS δ)(l:List ReplyT):Prop where
 id:s.id=s0.id
 replies:s.replies=s0.replies++l
 o: ∃l,s.o=s0.o++l∧∀x∈l,0≤x.msg.kind∧x.msg.kind≤9
theorem Qt.rp(h:Qt s0 s):Rp s0 s []:=⟨h.id,by rw[h.replies,aP],h.o⟩
theorem Rp.then{l:List ReplyT}{t:MS δ}(h:Rp s0 s l)(g:Qt s t):Rp s0 t l:=by
 obtain⟨l1,e,hl⟩:=h.o;obtain⟨l2,e2,hl2⟩:=g.o;exact⟨g.id.trans h.id,g.replies.trans h.replies,l1++l2,by rw[e2,e,aS],λx hx=>(ci.1 hx).elim (hl x) (hl2 x)⟩
theorem IK(s:MS δ)(f:Int)(m:MsgT):Qt s (dQ K s f m)∨(0<s.waits∧Rp s (dQ K s f m) [⟨s.waits,0,0⟩]∧(dQ K s f m).waits=0∧(dQ K s f m).ops=s.ops):=by
 unfold dQ;split
 · split
   · by_cases hw:0<s.waits
     · right
       have e:mo (gP (iN s f))= {dw (gP (iN s f)) s.waits 0 0 with waits:=0}:=yX (s:=gP (iN s f)) hw;have q:Qt (mo (gP (iN s f))) (lX K (iN s f)):=by unfold lX;exact inferInstance
       have hw0:(mo (gP (iN s f))).waits=0:=by rw[e]
       refine⟨hw,Rp.then (s:=mo (gP (iN s f))) ?_ q,(q.waits.elim (·.trans hw0) id),q.ops.trans (by rw[e];rfl)⟩;rw[e];exact⟨rfl,rfl,[],(aP _).symm,λ_ h=>by cases h⟩
     · left
       unfold lX;rw[yY (s:=gP (iN s f)) hw];exact inferInstance
   · left;exact inferInstance
 · left;exact inferInstance
theorem Ai(s:MS δ)(f:Int)(m:MsgT):Qt s (gj K s f m)∨(0<s.waits∧Rp s (gj K s f m) [⟨s.waits,0,0⟩]∧(gj K s f m).waits=0∧(gj K s f m).ops=s.ops):=by
 unfold gj
 by_cases h1:m.kind=1
 · rw[if_neg (by omega),if_pos h1];exact IK s f m
 · left
   rw[if_neg h1]
   repeat' split
   all_goals exact inferInstance
theorem Gi(s:MS δ)(x:RowT)(op:Int):((eS K s x op).2≠0∧Qt s (eS K s x op).1)∨((eS K s x op).2=0∧Rp s (eS K s x op).1 []∧(eS K s x op).1.waits=op∧(eS K s x op).1.ops=s.ops):=by
 unfold eS;split
 · rename_i h;exact .inl ⟨h,inferInstance⟩
 · right
   have q:Qt (uY (ej K s (kP x)) x op) (fp K (uY (ej K s (kP x)) x op)):=inferInstance;refine⟨rfl,Rp.then (s:=uY (ej K s (kP x)) x op) ⟨rfl,(aP _).symm,[],(aP _).symm,λ_ h=>by cases h⟩ q,?_,q.ops⟩;show(fp K _).waits=_;rfl
theorem zE(s:MS δ)(o:OpT):(∃e v,Rp s (bV K s o).1 [⟨fQ (s.ops+1),e,v⟩]∧(bV K s o).2=e∧(bV K s o).1.ops=fQ (s.ops+1)∧((bV K s o).1.waits=s.waits∨(bV K s o).1.waits=0))∨(Rp s (bV K s o).1 []∧(bV K s o).2=0∧(bV K s o).1.ops=fQ (s.ops+1)∧(bV K s o).1.waits=fQ (s.ops+1)):=by
 have e0:Rp s (bF s) []:=⟨rfl,(aP _).symm,[],(aP _).symm,λ_ h=>by cases h⟩
 have rep: ∀(t:MS δ) (op e v:Int),Qt (bF s) t→op=fQ (s.ops+1)→Rp s (dw t op e v) [⟨fQ (s.ops+1),e,v⟩]∧(dw t op e v).ops=fQ (s.ops+1)∧((dw t op e v).waits=s.waits∨(dw t op e v).waits=0):=λt op e v h ho=>by
  subst ho;obtain⟨l,e1,hl⟩:=h.o;exact⟨⟨h.id,by show t.replies++_=_;rw[h.replies];rfl,l,e1,hl⟩,h.ops,h.waits⟩
 unfold bV;split
 · left
   unfold dX;split
   · obtain⟨a,b,c⟩:=rep (bF s) _ (fF (bF s) o.change) 0 inferInstance rfl
     exact⟨_,_,a,rfl,b,c⟩
   · split
     · obtain⟨a,b,c⟩:=rep (cp K (bF s) o.change).1 _ (cp K (bF s) o.change).2 0 inferInstance rfl
       exact⟨_,_,a,rfl,b,c⟩
     · obtain⟨a,b,c⟩:=rep (cp K (bF s) o.change).1 _ 0 0 inferInstance rfl
       have q:Qt (dw (cp K (bF s) o.change).1 (bF s).ops 0 0) (n9 K (dw (cp K (bF s) o.change).1 (bF s).ops 0 0) (jy (bF s).view (eG (bF s)) o.change)):=inferInstance;exact⟨_,_,a.then q,rfl,q.ops.trans b,q.waits.elim (λw=>c.imp (w.trans ·) (w.trans ·)) .inr⟩
 · unfold nR
   split
   · left
     obtain⟨a,b,c⟩:=rep (bF s) _ (dh (bF s) o).2.2 (dh (bF s) o).2.1 inferInstance rfl;exact⟨_,_,a,rfl,b,c⟩
   · rcases Gi (K:=K) (bF s) (dh (bF s) o).1 (bF s).ops with⟨h,q⟩| ⟨h,q,hw,ho⟩
     · rw[if_pos h]
       left;obtain⟨a,b,c⟩:=rep _ _ (eS K (bF s) (dh (bF s) o).1 (bF s).ops).2 0 q rfl;exact⟨_,_,a,rfl,b,c⟩
     · rw[if_neg (by omega)]
       right;obtain⟨l,e1,hl⟩:=q.o;exact⟨⟨q.id,q.replies,l,e1,hl⟩,rfl,ho,hw⟩
end
def Slot.pend(x:Slot):Nat:=match x.run with
 |some s=>if 0<s.waits then 1 else 0
 |none=>0
structure SlotOk(i n:Nat)(x:Slot):Prop where
 run: ∀s,x.run=some s→OkR KD s∧s.id=((i:Nat):Int)∧s.o=[]
 D:x.run=none→DkOk x.D
 reps:x.reps.length+x.pend≤n
structure CLOk(n:Nat)(a:CL):Prop where
 ms:a.ms.length=5
 W:a.W.length=25
 at': ∀i,i<5→SlotOk i n (a.at' i)
 way: ∀k,(a.W.getD k []).length≤8∧∀m∈a.W.getD k [],0< (dR m).length
structure OkOp(o:OpT):Prop where
 change:OkCh o.change
 n:o.n≤9223372036854775807
theorem SlotOk.dk{i n:Nat}{x:Slot}(h:SlotOk i n x):DkOk x.dk:=by
 unfold Slot.dk;split
 · rename_i s q;exact(h.run s q).1.e.dk
 · rename_i q;exact h.D q
theorem SlotOk.more{i n k:Nat}{x:Slot}(h:SlotOk i n x)(hk:n≤k):SlotOk i k x:=⟨h.run,h.D,ml h.reps hk⟩
theorem CLOk.more{n k:Nat}{a:CL}(h:CLOk n a)(hk:n≤k):CLOk k a:=⟨h.ms,h.W,λi hi=>(h.at' i hi).more hk,h.way⟩
theorem ux{ms:List Slot}{W:List (List MsgT)}{i:Nat}{x:Slot}(h:i<ms.length):(CL.mk (ms.set i x) W).at' i=x:=by
 unfold CL.at';rw[List.getD_eq_getElem?_getD,List.getElem?_set_self h];rfl
theorem ve{ms:List Slot}{W:List (List MsgT)}{i j:Nat}{x:Slot}(h:j≠i):(CL.mk (ms.set i x) W).at' j=ms.getD j .nil:=by
 unfold CL.at';rw[List.getD_eq_getElem?_getD,List.getElem?_set_ne (λe=>h e.symm),←List.getD_eq_getElem?_getD]
theorem CLOk.put{n k i:Nat}{a:CL}(h:CLOk n a)(hk:n≤k)(hi:i<5){x:Slot}(hx:SlotOk i k x){W:List (List MsgT)}(hW:W.length=25)(hw: ∀k,(W.getD k []).length≤8∧∀m∈W.getD k [],0< (dR m).length):CLOk k ⟨a.ms.set i x,W⟩:=
 ⟨by show(a.ms.set i x).length=5;rw[cA];exact h.ms,hW,λj hj=>by
  by_cases q:j=i
  · subst q;rw[ux (by rw[h.ms];exact hi)];exact hx
  · rw[ve q];exact(h.at' j hj).more hk,hw⟩
theorem KW{W:List (List MsgT)}(hw: ∀k,(W.getD k []).length≤8∧∀m∈W.getD k [],0< (dR m).length)(f:Nat)(s:SaidT)(hs:0< (dR s.msg).length): ∀k,((sP W f s).getD k []).length≤8∧∀m∈(sP W f s).getD k [],0< (dR m).length:=λk=>by
 unfold sP;split
 · by_cases q:k=bC ((f:Nat):Int) s.to'
   · subst q
     by_cases hl:bC ((f:Nat):Int) s.to'<W.length
     · rw[List.getD_eq_getElem?_getD,List.getElem?_set_self hl]
       obtain⟨h1,h2⟩:=hw (bC ((f:Nat):Int) s.to');simp only[Option.getD_some];split
       · refine⟨by rw[ae,gq];omega,λm hm=>?_⟩
         rcases ci.1 hm with hm|hm
         · exact h2 m hm
         · rw[cG]at hm;subst hm;exact hs
       · exact⟨h1,h2⟩
     · rw[ni (by omega)];exact hw _
   · rw[List.getD_eq_getElem?_getD,List.getElem?_set_ne (λe=>q e.symm),←List.getD_eq_getElem?_getD];exact hw k
 · exact hw k
theorem B8(f:Nat): ∀(l:List SaidT) {W:List (List MsgT)},(∀x∈l,0< (dR x.msg).length)→(∀k,(W.getD k []).length≤8∧∀m∈W.getD k [],0< (dR m).length)→∀k,((gJ W f l).getD k []).length≤8∧∀m∈(gJ W f l).getD k [],0< (dR m).length
 | [],_,_,hw=>hw
 |s::l,W,hl,hw=>B8 f l (W:=sP W f s) (λx hx=>hl x (gN _ hx)) (KW hw f s (hl s (eC ..)))
theorem Cl(W:List (List MsgT))(f:Nat)(s:SaidT):(sP W f s).length=W.length:=by unfold sP;split<;>simp
theorem sJ(f:Nat): ∀(l:List SaidT) (W:List (List MsgT)),(gJ W f l).length=W.length
 | [],_=>rfl
 |s::l,W=>(sJ f l _).trans (Cl W f s)
theorem Lx{s:MS LD}(h:OkR KD s):OkR KD s.hush:=⟨h.e,h.id,h.view,h.own,h.mir,h.book,h.last,h.acc,h.vote⟩
def owe(s:MS LD):Nat:=if 0<s.waits then 1 else 0
theorem CLOk.did{n i k:Nat}{a:CL}(h:CLOk n a)(hk:n≤k)(hi:i<5){s s':MS LD}(hs:(a.at' i).run=some s)(h':OkR KD s'){l:List ReplyT}(r:Rp s s' l)(hl:l.length+owe s'+n≤k+owe s):CLOk k (a.did i s'):=by
 obtain⟨h1,h2,h3⟩:=(h.at' i hi).run s hs;obtain⟨lo,e,hlo⟩:=r.o;rw[h3,bK]at e;refine h.put hk hi ⟨λt q=>?_,(λq=>by cases q),?_⟩ (by rw[sJ];exact h.W) (B8 i _ (λx hx=>Nt (hlo x (by rw[←e];exact hx))) h.way)
 · obtain rfl:=cY q
   exact⟨Lx h',r.id.trans h2,rfl⟩
 · have:=(h.at' i hi).reps
   unfold Slot.reps Slot.pend at this ⊢;rw[hs]at this;show((a.at' i).past++s'.replies).length+(if 0<s'.waits then 1 else 0)≤k;rw[r.replies];unfold owe at hl;simp only[ae]at this ⊢;omega
theorem Qt.owe{s s':MS LD}(q:Qt s s'):Api.owe s'≤Api.owe s:=by
 unfold Api.owe;rcases q.waits with e|e
 · rw[e];exact aL _
 · rw[e];exact aM _
theorem N2(s:MS LD):owe s≤1:=by unfold owe;split<;>omega
theorem CLOk.quiet{n i:Nat}{a:CL}(h:CLOk n a)(hi:i<5){s s':MS LD}(hs:(a.at' i).run=some s)(h':OkR KD s')(q:Qt s s'):CLOk n (a.did i s'):=
 h.did (aL _) hi hs h' q.rp (by have:=q.owe;show 0+_+n≤_;omega)
theorem CLOk.onway{n k:Nat}{a:CL}(h:CLOk n a){l:List MsgT}(hl:l.length≤8∧∀m∈l,0< (dR m).length):CLOk n (a.way k l):=
 ⟨h.ms,by show(a.W.set k l).length=25;rw[cA];exact h.W,h.at',λj=>by
  show((a.W.set k l).getD j []).length≤8∧_
  by_cases q:j=k
  · subst q
    by_cases hk:j<a.W.length
    · show((a.W.set j l).getD j []).length≤8∧∀m∈(a.W.set j l).getD j [],_
      rw[List.getD_eq_getElem?_getD,List.getElem?_set_self hk];exact hl
    · show((a.W.set j l).getD j []).length≤8∧∀m∈(a.W.set j l).getD j [],_
      rw[ni (by omega)];exact h.way j
  · show((a.W.set k l).getD j []).length≤8∧∀m∈(a.W.set k l).getD j [],_
    rw[List.getD_eq_getElem?_getD,List.getElem?_set_ne (λe=>q e.symm),←List.getD_eq_getElem?_getD];exact h.way j⟩
theorem lT{w:Int}(h:gQ w=true):w.toNat<5∧((w.toNat:Nat):Int)=w:=by
 have:0≤w∧w<5:=of_decide_eq_true h;omega
theorem LM{n f t:Nat}{a:CL}(h:CLOk n a)(ht:t<5)(m:MsgT):CLOk n (ti a f t m).1:=by
 unfold ti;split
 · exact h
 · rename_i s hs
   split
   · exact h
   · split
     · obtain⟨h1,_,_⟩:=(h.at' t ht).run s hs
       have hm:=Gl (dR m);rcases Ai (K:=KD) s ((f:Nat):Int) (iR (dR m)).1 with q| ⟨hw,q,q2,_⟩
       · exact h.quiet ht hs inferInstance q
       · refine h.did (aL _) ht hs inferInstance q ?_
         unfold owe;rw[q2,if_pos hw];show 1+(if(0:Int)<0 then 1 else 0)+n≤n+1;rw[if_neg (by omega)];omega
     · exact h
theorem MU{n:Nat}{a:CL}(h:CLOk n a)(o:OpT):CLOk n (oF a o).1:=by
 unfold oF;split
 · exact h
 · rename_i hv
   have hv:dL o.at' o.to'=true:=by simpa using hv
   have hw:=h.way (bC o.at' o.to');split
   · exact h
   · rename_i m l hl
     rw[hl]at hw;split
     · split
       · refine h.onway ⟨?_,λx hx=>?_⟩
         · rename_i q
           unfold IA at q;have q:=of_decide_eq_true q;unfold D9;rw[if_pos q,ae,gq];omega
         · unfold D9 at hx
           split at hx
           · rcases ci.1 hx with hx|hx
             · exact hw.2 x hx
             · rw[cG]at hx;subst hx;exact hw.2 _ (eC ..)
           · exact hw.2 x hx
       · exact h
     · split
       · exact h
       · rename_i m2 l2 hl2
         have hlen:=kg (max o.n 0% ((m::l).length:Int)).toNat (m::l);have hmem:=λx=>(oJ (x:=x) (max o.n 0% ((m::l).length:Int)).toNat (m::l)).1
         rw[hl2]at hlen hmem;have g:CLOk n (a.way (bC o.at' o.to') l2):=h.onway ⟨by simp only[am]at hlen hw;omega,λx hx=>hw.2 x (hmem x (gN _ hx))⟩
         have ht:o.to'.toNat<5:=by
          unfold dL at hv;rw[ay,ay]at hv;exact(lT hv.1.2).1
         split
         · exact g
         · exact LM g ht m2
theorem BQ{n i:Nat}(hi:i<5){x:Slot}(h:SlotOk i n x):SlotOk i n (g8 i x).1:=by
 unfold g8;split
 · exact h
 · rename_i hr
   have hD:=h.D hr;refine⟨λs q=>?_,λ_=>hD.open.1,?_⟩
   · obtain⟨h1,f⟩:=tM hi hD q
     exact⟨h1,f.id,f.o⟩
   · have:=h.reps
     unfold Slot.reps Slot.pend at this ⊢;rw[hr,aP]at this;show(x.past++match(cO i x.D).1 with|some s=>s.replies|none=>[]).length+(match(cO i x.D).1 with|some s=>if 0<s.waits then 1 else 0|none=>0)≤n;cases q:(cO i x.D).1 with
     |some s=>
      have f:=(tM hi hD q).2;simp only[f.replies,f.waits,aP]
      simpa using this
     |none=>simpa using this
theorem NC{n i:Nat}{x:Slot}(h:SlotOk i n x){k:Int}(hk:k≤9223372036854775807):SlotOk i n (vu x k):=by
 unfold vu;split
 · rename_i s hs
   obtain⟨h1,h2,h3⟩:=h.run s hs;refine⟨λt q=>?_,(λq=>by cases q),?_⟩
   · obtain rfl:=cY q
     exact⟨⟨⟨h1.e.dk.arm k hk,h1.e.used,h1.e.cnt⟩,h1.id,h1.view,h1.own,h1.mir,h1.book,h1.last,h1.acc,h1.vote⟩,h2,h3⟩
   · have:=h.reps
     unfold Slot.reps Slot.pend at this ⊢;rw[hs]at this;exact this
 · rename_i hr
   refine⟨λt q=>?_,λ_=>(h.D hr).arm k hk,?_⟩
   · rw[show x.run=some t from q]at hr;cases hr
   · have:=h.reps
     unfold Slot.reps Slot.pend at this ⊢;rw[hr]at this;simp only[hr];exact this
theorem crash_ok{n i:Nat}{x:Slot}(h:SlotOk i n x)(mask torn cut:Int):SlotOk i n (nM x mask torn cut):=
 ⟨(λt q=>by cases q),λ_=>h.dk.crash mask torn cut,by
  have:=h.reps;show(x.reps++[]).length+0≤n
  rw[aP];omega⟩
theorem Nx{n:Nat}{a:CL}(h:CLOk n a){o:OpT}(ho:OkOp o)(hk: ¬(0≤o.kind∧o.kind≤4)):CLOk n (zA a o).1:=by
 unfold zA;split
 · exact h
 rename_i hm;have hm:gQ o.at'=true:=by simpa using hm
 have hi:=(lT hm).1;split
 · exact MU h o
 split
 · unfold BG
   split
   · exact h
   · rename_i s hs
     split
     · exact h
     · obtain⟨h1,_,_⟩:=(h.at' _ hi).run s hs
       exact h.quiet hi hs inferInstance inferInstance
 split
 · exact h.put (aL _) hi (NC (h.at' _ hi) ho.n) h.W h.way
 split
 · exact h.put (aL _) hi (crash_ok (h.at' _ hi) _ _ _) h.W h.way
 split
 · exact h.put (aL _) hi (BQ hi (h.at' _ hi)) h.W h.way
 · exact h
theorem MK{n:Nat}{a:CL}(h:CLOk n a){o:OpT}(ho:OkOp o):CLOk (n+1) (zA a o).1:=by
 by_cases hk:0≤o.kind∧o.kind≤4
 · unfold zA
   split
   · exact h.more (by omega)
   rename_i hm;have hm:gQ o.at'=true:=by simpa using hm
   have hi:=(lT hm).1;unfold Dr;split
   · exact h.more (by omega)
   · rename_i s hs
     split
     · exact h.more (by omega)
     · obtain⟨h1,_,_⟩:=(h.at' _ hi).run s hs
       have:=ho.change;rcases zE (K:=KD) s o with⟨e,v,q,_,_,w⟩| ⟨q,_⟩
       · refine h.did (by omega) hi hs inferInstance q ?_
         have:owe (bV KD s o).1≤owe s:=by
          unfold owe;rcases w with e|e
          · rw[e];exact aL _
          · rw[e];exact aM _
         show 1+_+n≤_;omega
       · refine h.did (by omega) hi hs inferInstance q ?_
         have:=N2 (bV KD s o).1;show 0+_+n≤_;omega
 · exact(Nx h ho hk).more (by omega)
theorem new_ok:CLOk 0 CL.new:=by
 refine⟨by simp[CL.new],by simp[CL.new],λi hi=>?_,λk=>?_⟩
 · have e:CL.new.at' i=mA i:=by simp[CL.new,CL.at',List.getD_eq_getElem?_getD,hi]
   rw[e];exact BQ hi ⟨(λs q=>by cases q),λ_=>DkOk.new,aL _⟩
 · have e:CL.new.W.getD k []=[]:=by
    show(List.replicate 25 ([]:List MsgT)).getD k []=[];rw[List.getD_eq_getElem?_getD,List.getElem?_replicate];split<;>rfl
   rw[e];exact⟨aM _,λm hm=>by cases hm⟩
theorem Av: ∀(l:List OpT) {n:Nat} {a:CL},CLOk n a→(∀o∈l,OkOp o)→CLOk (n+l.length) (gy a l)
 | [],_,_,h,_=>h
 |o::l,n,a,h,ho=>by
  have:=Av l (MK h (ho o (eC ..))) λx hx=>ho x (gN _ hx)
  rw[am,show n+(l.length+1)=n+1+l.length by omega];exact this
end Api
end

section
namespace Go.Proofs.YtfocodjhmkokpaaGreatDoor
open Go Leg Codec Api
theorem wT(ob:Nat)(ok:Bool):DoesD Tryz.prog 140 #[(.pointer (some ⟨ob,0,none⟩))] (.returning) (λ_=>True) [ah ob [(.bool (ok))] 4] (λe u' H=>e= .returned (.tuple #[])∧settle u'= .returning∧H=[ah ob [.bool ok] 4]):=by
 refine DoesD.recover2 (vs:=[(.pointer (some ⟨ob,0,none⟩))]) (n:=15) (u':= .returning) (rv:= .nilIface) Tryz.func140 rfl rfl rfl rfl rfl rfl rfl rfl rfl rfl rfl (λc0 cs hu=>by cases c0;simp only at hu;subst hu;rfl) (λw0 F c0 cs hF=>?_);refine ab (λK1 hK1=>?_);refine ab (λK2 hK2=>?_);refine ad ?_;refine dA (aa rfl) rfl rfl (cq rfl rfl) ?_;refine dA (aa rfl) rfl rfl (PV.nilNil rfl Tryz.underlying20 rfl) ?_;refine ap ?_;refine ac hK2 ?_;clear hK2;refine iU rfl ?_;refine ai ?_;refine af ?_;clear hK1;refine aE (db _) (λ_ s=>ak [0] rfl s) ?_;refine TE.retS0 rfl ?_;refine⟨rfl,rfl,?_⟩;rfl
theorem AF(ob:Nat)(ok:Bool):DoesD Tryz.prog 140 #[(.pointer (some ⟨ob,0,none⟩))] (.panicking im) (λ_=>True) [ah ob [(.bool (ok))] 4] (λe u' H=>e= .returned (.tuple #[])∧settle u'= .returning∧H=[ah ob [.bool false] 4]):=by
 refine DoesD.recover2 (vs:=[(.pointer (some ⟨ob,0,none⟩))]) (n:=15) (u':= .panicking [{v:=(.iface 221 (.agg #[])),recovered:=true}]) (rv:=(.iface 221 (.agg #[]))) Tryz.func140 rfl rfl rfl rfl rfl rfl rfl rfl rfl rfl rfl (λc0 cs hu=>by cases c0;simp only at hu;subst hu;rfl) (λw0 F c0 cs hF=>?_);refine ab (λK1 hK1=>?_);refine ab (λK2 hK2=>?_);refine ad ?_;refine dA (aa rfl) rfl rfl (cq rfl rfl) ?_;refine dA (aa rfl) rfl rfl (PV.ifaceNil rfl Tryz.underlying20 rfl) ?_;refine ap ?_;refine ac hK2 ?_;clear hK2;refine tt rfl ?_;refine aT ?_;refine ac hK1 ?_;clear hK1;refine ab (λK3 hK3=>?_);refine ab (λK4 hK4=>?_);refine ad ?_;refine dA (aa rfl) rfl rfl (cq rfl rfl) ?_;refine dA (aa rfl) rfl rfl (PV.assert rfl Ij rfl rfl) ?_;refine dA (aa rfl) rfl rfl (cq rfl rfl) ?_;refine dA (aa rfl) rfl rfl (gX (vs:=[.agg #[], .bool true]) rfl rfl rfl) ?_;refine dA (aa rfl) rfl rfl (gX (vs:=[.agg #[], .bool true]) rfl rfl rfl) ?_;refine lZ (aa rfl) rfl rfl rfl PI (λb2=>?_);change TL _ _ _ _ _ _ _ _ _ [ah b2 [] 221,ah ob [(.bool (ok))] 4];refine bO (vs:=[]) (i:=0) (H':=[ah b2 [] 221,ah ob [(.bool (ok))] 4]) (aa rfl) rfl rfl rfl rfl rfl NZ (by simp[Value.oneCell']) rfl rfl (Lt rfl) rfl rfl ?_;refine dA (aa rfl) rfl rfl (pF rfl rfl) ?_;refine ap ?_;refine ac hK4 ?_;clear hK4;refine ab (λK5 hK5=>?_);refine ad ?_;refine dA (aa rfl) rfl rfl (cq rfl rfl) ?_;refine dA (aa rfl) rfl rfl (mG (r:=false) rfl rfl rfl) ?_;refine ap ?_
 refine ac hK5 ?_;clear hK5;refine tt rfl ?_;refine aT ?_;refine ac hK3 ?_;clear hK3;refine ad ?_;refine bz (i:=1) (H':=[ah b2 [] 221,ah ob [(.bool false)] 4]) (aa rfl) rfl rfl rfl rfl rfl lc rfl rfl (lb rfl) rfl rfl ?_;refine ap ?_;refine aE (db _) (λ_ s=>ak [1] rfl s) ?_;refine TE.endS0 rfl ?_;refine⟨rfl,rfl,?_⟩;exact rfl
theorem G7{fid:Nat}{caps:List Value}{x:Value}{bs:List UInt8}{C G:HP}{A:List UInt8→HP}{R:Hl→Prop}(hR: ∀F,R F→IsB x bs F)(hmono: ∀F g,R F→Dj g F→R (jn g F))(hN:Named Tryz.prog fid)
 (hc: ∀rb,DT fid ([Value.pointer (some ⟨rb,0,none⟩)]++caps).toArray R [ah rb [x] 219,C] (vC (λ_ H=>∃x' r,H=[ah rb [x'] 219,A r]∧Tail x bs x' r) (λc H=>c=im∧∃x',H=[ah rb [x'] 219,G]))):
 DT 105 #[x, .func (.func fid) #[] caps.toArray] R [C] (dm (λv H=>(∃r,v= .bool (decide (r=[]))∧H=[A r])∨(v= .bool false∧H=[G]))):=by
 refine Leg.Does.bodyD (vs:=[x, .func (.func fid) #[] caps.toArray]) (n:=21) Tryz.func105 rfl rfl rfl (λw0 F hF=>sr λ_ J1=>XA z4 λb4=>?_);refine nx J1 (sr λ_ J2=>PS ?_);refine tp (PV.buildOne rfl Bm PJ rfl kL rfl (hR _ hF).one) ?_;refine XB λb8=>?_
 refine PS ?_;refine nx J2 (sr λ_ J3=>tp (QM rfl rfl) ?_);refine TL.deferFn (aa rfl) rfl rfl rfl (nx J3 (ab λ_ J4=>sr λ_ J5=>PS ?_));refine tp (PV.funcNeqNil rfl Tryz.underlying193 rfl) ?_;refine nx J5 (CY (ad (P2 ?_)));refine TL.callPv (aa rfl) rfl rfl rfl rfl hN rfl (hc b8) (λ_ s=>aC [0,1] rfl s) (NL hmono hF) (λcP HP hP=>?_) (λvR HR hR'=>?_);obtain⟨rfl,x',rfl⟩:=hP;refine ax ?_;intro a w fr sm m;refine rN (b:=b4) (e:=4) (A:=[ah b4 [(.bool false)] 4]) (B:=[ah b8 [x'] 219,G]) (H':=[G]) fr sm m (by simp) Jt (AF b4 _) (λ_ s=>aC [2] rfl s) (λ_ _ _=>trivial) rfl rfl Y4 rfl (λH1 h1=>?_);subst h1;refine⟨[.bool false], .bool false,dS 0 rfl rfl,rfl,λ_ s=>ak [2] rfl s,?_⟩;exact .inr ⟨rfl,rfl⟩;obtain⟨x',r,rfl,htl⟩:=hR';have hB:=htl F (hR _ hF);rcases hB with⟨rfl,rfl⟩| ⟨b,off,cap,cs,T,z,rfl,hB1,hB2,hB3,hB4⟩
 refine nx J4 (sr λ_ J6=>P2 ?_);refine FA 0 Bm kL ?_;refine LA 0 fE ?_;refine tp (qA rfl fE rfl) ?_;refine PS ?_;refine S0 2 lc ?_;refine nx J6 (ai ?_);intro a w fr sm m;refine rN (b:=b4) (e:=4) (A:=[ah b4 [(.bool true)] 4]) (B:=[ah b8 [(.slice none 0 0)] 219,(A [])]) (H':=[(A [])]) fr sm m (by simp) Jt (wT b4 _) (λ_ s=>aC [2] rfl s) (λ_ _ _=>trivial) rfl rfl Y4 rfl (λH1 h1=>?_);subst h1;refine⟨[.bool true], .bool true,dS 0 rfl rfl,rfl,λ_ s=>ak [2] rfl s,?_⟩;exact .inl ⟨[],rfl,rfl⟩;refine nx J4 (sr λ_ J7=>P2 ?_);refine FA 0 Bm kL ?_;refine LA 0 fE ?_;refine tp (qA rfl fE rfl) ?_;refine PS ?_;refine S0 2 lc ?_;refine nx J7 (ai ?_);intro a w fr sm m;refine rN (b:=b4) (e:=4) (A:=[ah b4 [(.bool (decide (((r.length:Nat):Int)=0)))] 4]) (B:=[ah b8 [(.slice (some ⟨b,off,none⟩) (r.length) (cap))] 219,(A r)]) (H':=[(A r)]) fr sm m (by simp) Jt (wT b4 _) (λ_ s=>aC [2] rfl s) (λ_ _ _=>trivial) rfl rfl Y4 rfl (λH1 h1=>?_);subst h1;refine⟨[.bool (decide (((r.length:Nat):Int)=0))], .bool (decide (((r.length:Nat):Int)=0)),dS 0 rfl rfl,rfl,λ_ s=>ak [2] rfl s,?_⟩;exact .inl ⟨r,by congr 1;rw[decide_eq_decide];cases r<;>simp<;>omega,rfl⟩
theorem zd{fid:Nat}{caps:List Value}{x:Value}{bs:List UInt8}{α β:Type}{C:List HP}{A:α→List HP}{G:β→List HP}{φ:α→List UInt8→Prop}{ψ:β→Prop}{R:Hl→Prop}(hR: ∀F,R F→IsB x bs F)(hmono: ∀F g,R F→Dj g F→R (jn g F))(hN:Named Tryz.prog fid)
 (hc: ∀rb,DT fid ([Value.pointer (some ⟨rb,0,none⟩)]++caps).toArray R (ah rb [x] 219::C) (vC (λ_ H=>∃x' r a,H=ah rb [x'] 219::A a∧Tail x bs x' r∧φ a r) (λc H=>c=im∧∃x' b,H=ah rb [x'] 219::G b∧ψ b))):
 DT 105 #[x, .func (.func fid) #[] caps.toArray] R C (dm (λv H=>(∃r a,v= .bool (decide (r=[]))∧H=A a∧φ a r)∨(∃b,v= .bool false∧H=G b∧ψ b))):=by
 have h1:=G7 (C:=all C) (G:=λh=>∃b,ψ b∧bD (G b) h) (A:=λr h=>∃a,φ a r∧bD (A a) h) hR hmono hN λrb=>
  (hc rb).conv (post':=vC (λ_ H=>∃x' r,H=[ah rb [x'] 219,λh=>∃a,φ a r∧bD (A a) h]∧Tail x bs x' r) (λc H=>c=im∧∃x',H=[ah rb [x'] 219,λh=>∃b,ψ b∧bD (G b) h]))
   (λh s=>wC s λ_=>L0)
   (λe H F w hp m=>by
    cases e with
    |returned v=>
     obtain⟨x',r,a,rfl,ht,hf⟩:=hp;exact⟨[ah rb [x'] 219,λh=>∃a,φ a r∧bD (A a) h],m.mono λh s=>wC s λh s=>rE ⟨a,hf,s⟩,x',r,rfl,ht⟩
    |panicked c=>
     obtain⟨hc,x',b,rfl,hf⟩:=hp;exact⟨[ah rb [x'] 219,λh=>∃b,ψ b∧bD (G b) h],m.mono λh s=>wC s λh s=>rE ⟨b,hf,s⟩,hc,x',rfl⟩
    |outgrown=>exact hp.elim)
 refine h1.conv (λh s=>KR s) λe H F w hp m=>?_
 cases e with
 |returned v=>
  rcases hp with⟨r,hv,rfl⟩| ⟨hv,rfl⟩
  · obtain⟨h,d,e,g1,g2,d',rfl,⟨a,hf,s⟩,_⟩:=m
    exact⟨A a,⟨_,d,e,lJ _ s d'⟩, .inl ⟨r,a,hv,rfl,hf⟩⟩
  · obtain⟨h,d,e,g1,g2,d',rfl,⟨b,hf,s⟩,_⟩:=m
    exact⟨G b,⟨_,d,e,lJ _ s d'⟩, .inr ⟨b,hv,rfl,hf⟩⟩
 |panicked c=>exact hp.elim
 |outgrown=>exact hp.elim
theorem AE(rb:Nat)(v:Value)(bs:List UInt8):
 DT 120 #[(.pointer (some ⟨rb,0,none⟩))] (IsB v bs) [ah rb [v] 219] (nO 219 im (λmb:MsgT×Bool=> .tuple #[.agg (ints mb.1.flat).toArray, .bool mb.2]) cR v bs rb):=by
 refine BD 85 Tryz.func120 rfl rfl rfl λw0 F hF=>sr λ_ J1=>XZ mw (ints MsgT.zero.flat) λb2=>?_
 refine PS ?_;refine nx J1 (sr λ_ J2=>PS ?_);refine CP jg (cQ rb v bs (10)) (SM [1]) (λ_ d _=>(hF).more d) (λcP HP hP=>?_) (λvR HR hR=>?_);obtain⟨vP,rfl,rfl,hpP⟩:=hP;refine ax (WK [0] (aU ?_));exact⟨_,rfl,rfl,by simp[cR,bU hpP, *]⟩;obtain⟨a1,r1,v1,rfl,rfl,hp1,ht1⟩:=hR;have hf1:=ht1 _ hF;refine tp (lv MsgT.zero (MsgT.mk a1 0 RowT.zero 0 0 BallotT.zero BallotT.zero ChangeT.zero ViewT.zero) [(0,[Value.int .i64 a1])] be bv (g:=MsgT.sg)) ?_;refine XZ mw (ints MsgT.zero.flat) λb4=>?_
 refine SW 0 cd aG ?_;refine nx J2 (ab λ_ J3=>sr λ_ J4=>FA 0 be aR ?_);refine LT 0 Y3 (.int .i64 (a1)) ?_ (hc:=by exact eT _ rfl);refine nx J4 (au (ab λ_ J5=>e5 (α:=Unit) (λ_u=>True) (λ_u=>[(0,(.pointer (some ⟨rb,0,none⟩))),(2,(.pointer (some ⟨b2,0,none⟩))),(3,(.bool false)),(4,(.pointer (some ⟨b4,0,none⟩))),(9,(.int .i64 (a1))),(10,(.bool ((fc a1))))]) (λ_u=>[ah b4 (ints (MsgT.mk a1 0 RowT.zero 0 0 BallotT.zero BallotT.zero ChangeT.zero ViewT.zero).flat) 163,ah rb [v1] 219,ah b2 (ints MsgT.zero.flat) 163]) (λ_u hinv=>?_) (λtl5=>?_)));have _:=hinv;refine ac J5 (TC.cond rfl (λh10=>?_) (λh10=>?_));refine sr λ_ J6=>PS ?_
 refine CP jg (cQ rb v1 r1 (5)) (SM [1]) (λ_ d _=>(hf1).more d) (λcP HP hP=>?_) (λvR HR hR=>?_);obtain⟨vP,rfl,rfl,hpP⟩:=hP;refine ax (aO (ax (WK [0] (aU ?_))));exact⟨_,rfl,rfl,by simp[cR,aD hp1,bU hpP,h10, *]⟩;obtain⟨a2,r2,v2,rfl,rfl,hp2,ht2⟩:=hR;have hf2:=ht2 _ hf1;refine FA 1 be aR ?_;refine SS 1 aR (aG _) (MsgT.set_whose _ rfl _) ?_;refine nx J6 (sr λ_ J7=>PS ?_);refine CP Js (tR rb v2 r2) ID (λ_ d _=>(hf2).more d) (λcP HP hP=>?_) (λvR HR hR=>?_);obtain⟨vP,rfl,rfl,hpP⟩:=hP;refine ax (aO (ax (WK [0] (aU ?_))));exact⟨_,rfl,rfl,by simp[cR,aD hp1,aD hp2,bU hpP,h10, *]⟩;obtain⟨a3,r3,v3,rfl,rfl,hp3,ht3⟩:=hR;have hf3:=ht3 _ hf2;refine FA 2 be ba ?_;refine SP 1 ba aj aG MsgT.wp_row ?_;refine nx J7 (ab λ_ J8=>D1 1 mixed ?_);refine LY 0 be cd aG ?_;refine FD 1 2 be ba ?_;refine ta 2 rfl (aN (vs:=ints a3.flat) rfl dV rfl ba rfl (λ_ h=>h.2.1) (aj a3) (mm (MsgT.mk a1 a2 a3 0 0 BallotT.zero BallotT.zero ChangeT.zero ViewT.zero) 0 rfl (by decide) (whole (aj a3)))) ?_;refine AL 3 ?_;refine CE Jh (jS a3 (Ax hp3)) ID ?_;refine EN (AL 4 ?_);refine SW 2 cd aG ?_;refine EN (PD 5 ?_);refine DN (ac J8 (ai (aH (af (RT 2 [0] be cd (aG _) ?_)))));exact⟨((MsgT.mk a1 a2 a3 0 0 BallotT.zero BallotT.zero ChangeT.zero ViewT.zero),(hJ a3)),_,_,rfl,rfl,by simp[cR,pr,aD hp1,aD hp2,aD hp3,h10,MsgT.zero,RecT.zero, *],(ht1.trans (ht2.trans ht3))⟩;refine sr λ_ J9=>PS ?_
 refine ao ?_ ?_<;>intro h25;refine PS ?_;refine nx J9 (CY (ad (PS ?_)));refine CP qc (jf rb v1 r1) (SM [1]) (λ_ d _=>(hf1).more d) (λcP HP hP=>?_) (λvR HR hR=>?_);obtain⟨vP,rfl,rfl,hpP⟩:=hP;refine aO (ax (WK [0] (aU ?_)));exact⟨_,rfl,rfl,by simp[cR,fc,fk,aD hp1,bU hpP,h10,h25, *]⟩;obtain⟨a2,r2,v2,rfl,rfl,hp2,ht2⟩:=hR;have hf2:=ht2 _ hf1;refine FA 176 be aR ?_;refine SS 1 aR (aG _) (MsgT.set_version _ rfl _) ?_;refine ap (ag (ac J3 (sr λ_ J10=>LW 1 be cd aG ?_)));refine SW 2 cd aG ?_;refine PS ?_;refine nx J10 (ai (RT 2 [0] be cd (aG _) ?_));exact⟨((MsgT.mk a1 0 RowT.zero a2 0 BallotT.zero BallotT.zero ChangeT.zero ViewT.zero),true),_,_,rfl,rfl,by simp[cR,fc,fk,pr,aD hp1,aD hp2,h10,h25,MsgT.zero,RecT.zero, *],(ht1.trans ht2)⟩;refine PS ?_;refine nx J9 (CN (ab λ_ J11=>e5 (α:=Unit) (λ_u=>True) (λ_u=>[(0,(.pointer (some ⟨rb,0,none⟩))),(2,(.pointer (some ⟨b2,0,none⟩))),(3,(.bool false)),(4,(.pointer (some ⟨b4,0,none⟩))),(9,(.int .i64 (a1))),(29,(.bool ((fk a1))))]) (λ_u=>[ah b4 (ints (MsgT.mk a1 0 RowT.zero 0 0 BallotT.zero BallotT.zero ChangeT.zero ViewT.zero).flat) 163,ah rb [v1] 219,ah b2 (ints MsgT.zero.flat) 163]) (λ_u hinv=>?_) (λtl11=>?_)));have _:=hinv;refine ac J11 (TC.cond rfl (λh29=>?_) (λh29=>?_));refine sr λ_ J12=>PS ?_
 refine CP qc (jf rb v1 r1) (SM [1]) (λ_ d _=>(hf1).more d) (λcP HP hP=>?_) (λvR HR hR=>?_);obtain⟨vP,rfl,rfl,hpP⟩:=hP;refine ax (aO (ax (WK [0] (aU ?_))));exact⟨_,rfl,rfl,by simp[cR,aD hp1,bU hpP,h10,h25,h29, *]⟩;obtain⟨a2,r2,v2,rfl,rfl,hp2,ht2⟩:=hR;have hf2:=ht2 _ hf1;refine FA 177 be aR ?_;refine SS 1 aR (aG _) (Pm _ rfl _) ?_;refine nx J12 (ad (PS ?_));refine CP zk (jx rb v2 r2) ID (λ_ d _=>(hf2).more d) (λcP HP hP=>?_) (λvR HR hR=>?_);obtain⟨vP,rfl,rfl,hpP⟩:=hP;refine aO (ax (WK [0] (aU ?_)));exact⟨_,rfl,rfl,by simp[cR,aD hp1,aD hp2,bU hpP,h10,h25,h29, *]⟩;obtain⟨a3,r3,v3,rfl,rfl,hp3,ht3⟩:=hR;have hf3:=ht3 _ hf2;refine FA 178 be cw ?_;refine SP 1 cw aq aG Pk ?_;refine ap (ag (ac J3 (sr λ_ J13=>LW 1 be cd aG ?_)));refine SW 2 cd aG ?_;refine PS ?_;refine nx J13 (ai (RT 2 [0] be cd (aG _) ?_));exact⟨((MsgT.mk a1 0 RowT.zero 0 a2 a3 BallotT.zero ChangeT.zero ViewT.zero),true),_,_,rfl,rfl,by simp[cR,pr,aD hp1,aD hp2,aD hp3,h10,h25,h29,MsgT.zero,RecT.zero, *],(ht1.trans (ht2.trans ht3))⟩;refine sr λ_ J14=>PS ?_
 refine ao ?_ ?_<;>intro h39;refine PS ?_;refine nx J14 (CY (sr λ_ J15=>PS ?_));refine CP qc (jf rb v1 r1) (SM [1]) (λ_ d _=>(hf1).more d) (λcP HP hP=>?_) (λvR HR hR=>?_);obtain⟨vP,rfl,rfl,hpP⟩:=hP;refine ax (aO (ax (WK [0] (aU ?_))));exact⟨_,rfl,rfl,by simp[cR,fc,fk,aD hp1,bU hpP,h10,h25,h29,h39, *]⟩;obtain⟨a2,r2,v2,rfl,rfl,hp2,ht2⟩:=hR;have hf2:=ht2 _ hf1;refine FA 177 be aR ?_;refine SS 1 aR (aG _) (Pm _ rfl _) ?_;refine nx J15 (sr λ_ J16=>PS ?_);refine CP zk (jx rb v2 r2) ID (λ_ d _=>(hf2).more d) (λcP HP hP=>?_) (λvR HR hR=>?_);obtain⟨vP,rfl,rfl,hpP⟩:=hP;refine ax (aO (ax (WK [0] (aU ?_))));exact⟨_,rfl,rfl,by simp[cR,fc,fk,aD hp1,aD hp2,bU hpP,h10,h25,h29,h39, *]⟩;obtain⟨a3,r3,v3,rfl,rfl,hp3,ht3⟩:=hR;have hf3:=ht3 _ hf2;refine FA 178 be cw ?_;refine SP 1 cw aq aG Pk ?_;refine nx J16 (sr λ_ J17=>PS ?_);refine CP zk (jx rb v3 r3) ID (λ_ d _=>(hf3).more d) (λcP HP hP=>?_) (λvR HR hR=>?_);obtain⟨vP,rfl,rfl,hpP⟩:=hP;refine ax (aO (ax (WK [0] (aU ?_))));exact⟨_,rfl,rfl,by simp[cR,fc,fk,aD hp1,aD hp2,aD hp3,bU hpP,h10,h25,h29,h39, *]⟩;obtain⟨a4,r4,v4,rfl,rfl,hp4,ht4⟩:=hR;have hf4:=ht4 _ hf3;refine FA 180 be cw ?_;refine SP 1 cw aq aG MsgT.wp_had ?_;refine nx J17 (ad (PS ?_));refine CP Jr (oT rb v4 r4) ID (λ_ d _=>(hf4).more d) (λcP HP hP=>?_) (λvR HR hR=>?_);obtain⟨vP,rfl,rfl,hpP⟩:=hP
 refine aO (ax (WK [0] (aU ?_)));exact⟨_,rfl,rfl,by simp[cR,fc,fk,aD hp1,aD hp2,aD hp3,aD hp4,bU hpP,h10,h25,h29,h39, *]⟩;obtain⟨a5,r5,v5,rfl,rfl,hp5,ht5⟩:=hR;have hf5:=ht5 _ hf4;refine FA 182 be fq ?_;refine SP 1 fq aJ aG Pj ?_;refine ap (ag (ac J3 (sr λ_ J18=>LW 1 be cd aG ?_)));refine SW 2 cd aG ?_;refine PS ?_;refine nx J18 (ai (RT 2 [0] be cd (aG _) ?_));exact⟨((MsgT.mk a1 0 RowT.zero 0 a2 a3 a4 a5 ViewT.zero),true),_,_,rfl,rfl,by simp[cR,fc,fk,pr,aD hp1,aD hp2,aD hp3,aD hp4,aD hp5,h10,h25,h29,h39,MsgT.zero,RecT.zero, *],(ht1.trans (ht2.trans (ht3.trans (ht4.trans ht5))))⟩;refine PS ?_;refine nx J14 (CN (sr λ_ J19=>PS ?_));refine ao ?_ ?_<;>intro h53;refine PS ?_;refine nx J19 (CY (sr λ_ J20=>PS ?_));refine CP qc (jf rb v1 r1) (SM [1]) (λ_ d _=>(hf1).more d) (λcP HP hP=>?_) (λvR HR hR=>?_);obtain⟨vP,rfl,rfl,hpP⟩:=hP;refine ax (aO (ax (WK [0] (aU ?_))));exact⟨_,rfl,rfl,by simp[cR,fc,fk,aD hp1,bU hpP,h10,h25,h29,h39,h53, *]⟩;obtain⟨a2,r2,v2,rfl,rfl,hp2,ht2⟩:=hR;have hf2:=ht2 _ hf1;refine FA 177 be aR ?_;refine SS 1 aR (aG _) (Pm _ rfl _) ?_;refine nx J20 (sr λ_ J21=>PS ?_);refine CP zk (jx rb v2 r2) ID (λ_ d _=>(hf2).more d) (λcP HP hP=>?_) (λvR HR hR=>?_);obtain⟨vP,rfl,rfl,hpP⟩:=hP;refine ax (aO (ax (WK [0] (aU ?_))));exact⟨_,rfl,rfl,by simp[cR,fc,fk,aD hp1,aD hp2,bU hpP,h10,h25,h29,h39,h53, *]⟩
 obtain⟨a3,r3,v3,rfl,rfl,hp3,ht3⟩:=hR;have hf3:=ht3 _ hf2;refine FA 178 be cw ?_;refine SP 1 cw aq aG Pk ?_;refine nx J21 (ad (PS ?_));refine CP Jr (oT rb v3 r3) ID (λ_ d _=>(hf3).more d) (λcP HP hP=>?_) (λvR HR hR=>?_);obtain⟨vP,rfl,rfl,hpP⟩:=hP;refine aO (ax (WK [0] (aU ?_)));exact⟨_,rfl,rfl,by simp[cR,fc,fk,aD hp1,aD hp2,aD hp3,bU hpP,h10,h25,h29,h39,h53, *]⟩;obtain⟨a4,r4,v4,rfl,rfl,hp4,ht4⟩:=hR;have hf4:=ht4 _ hf3;refine FA 182 be fq ?_;refine SP 1 fq aJ aG Pj ?_;refine ap (ag (ac J3 (sr λ_ J22=>LW 1 be cd aG ?_)));refine SW 2 cd aG ?_;refine PS ?_;refine nx J22 (ai (RT 2 [0] be cd (aG _) ?_));exact⟨((MsgT.mk a1 0 RowT.zero 0 a2 a3 BallotT.zero a4 ViewT.zero),true),_,_,rfl,rfl,by simp[cR,fc,fk,pr,aD hp1,aD hp2,aD hp3,aD hp4,h10,h25,h29,h39,h53,MsgT.zero,RecT.zero, *],(ht1.trans (ht2.trans (ht3.trans ht4)))⟩;refine PS ?_;refine nx J19 (CN (sr λ_ J23=>PS ?_));refine ao ?_ ?_<;>intro h64;refine PS ?_;refine nx J23 (CY (sr λ_ J24=>PS ?_));refine CP Jq (rG rb v1 r1) (SM [1]) (λ_ d _=>(hf1).more d) (λcP HP hP=>?_) (λvR HR hR=>?_);obtain⟨vP,rfl,rfl,hpP⟩:=hP;refine ax (aO (ax (WK [0] (aU ?_))));exact⟨_,rfl,rfl,by simp[cR,fc,fk,aD hp1,bU hpP,h10,h25,h29,h39,h53,h64, *]⟩;obtain⟨a2,r2,v2,rfl,rfl,hp2,ht2⟩:=hR;have hf2:=ht2 _ hf1;refine FA 185 be bg ?_;refine SP 1 bg an aG MsgT.wp_view ?_;refine nx J24 (ab λ_ J25=>D1 1 mixed ?_)
 refine LY 0 be cd aG ?_;refine FD 1 185 be bg ?_;refine ta 2 rfl (aN (vs:=ints a2.flat) rfl eH rfl bg rfl (λ_ h=>h.2.1) (an a2) (vF (MsgT.mk a1 0 RowT.zero 0 0 BallotT.zero BallotT.zero ChangeT.zero a2) 0 rfl (by decide) (whole (an a2)))) ?_;refine AL 3 ?_;refine CE Jp (mO a2 (sx hp2)) ID ?_;refine EN (AL 4 ?_);refine SW 2 cd aG ?_;refine EN (PD 5 ?_);refine DN (ac J25 (ai (aH (af (RT 2 [0] be cd (aG _) ?_)))));exact⟨((MsgT.mk a1 0 RowT.zero 0 0 BallotT.zero BallotT.zero ChangeT.zero a2),(kQ a2)),_,_,rfl,rfl,by simp[cR,fc,fk,pr,aD hp1,aD hp2,h10,h25,h29,h39,h53,h64,MsgT.zero,RecT.zero, *],(ht1.trans ht2)⟩;refine PS ?_;refine nx J23 (CN (sr λ_ J26=>PS ?_));refine ao ?_ ?_<;>intro h73;refine PS ?_;refine nx J26 (CY (sr λ_ J27=>PS ?_));refine CP jg (cQ rb v1 r1 (5)) (SM [1]) (λ_ d _=>(hf1).more d) (λcP HP hP=>?_) (λvR HR hR=>?_);obtain⟨vP,rfl,rfl,hpP⟩:=hP;refine ax (aO (ax (WK [0] (aU ?_))));exact⟨_,rfl,rfl,by simp[cR,fc,fk,aD hp1,bU hpP,h10,h25,h29,h39,h53,h64,h73, *]⟩;obtain⟨a2,r2,v2,rfl,rfl,hp2,ht2⟩:=hR;have hf2:=ht2 _ hf1;refine FA 1 be aR ?_;refine SS 1 aR (aG _) (MsgT.set_whose _ rfl _) ?_;refine nx J27 (sr λ_ J28=>PS ?_);refine CP Jq (rG rb v2 r2) ID (λ_ d _=>(hf2).more d) (λcP HP hP=>?_) (λvR HR hR=>?_);obtain⟨vP,rfl,rfl,hpP⟩:=hP;refine ax (aO (ax (WK [0] (aU ?_))))
 exact⟨_,rfl,rfl,by simp[cR,fc,fk,aD hp1,aD hp2,bU hpP,h10,h25,h29,h39,h53,h64,h73, *]⟩;obtain⟨a3,r3,v3,rfl,rfl,hp3,ht3⟩:=hR;have hf3:=ht3 _ hf2;refine FA 185 be bg ?_;refine SP 1 bg an aG MsgT.wp_view ?_;refine nx J28 (ab λ_ J29=>D1 1 mixed ?_);refine LY 0 be cd aG ?_;refine FD 1 185 be bg ?_;refine ta 2 rfl (aN (vs:=ints a3.flat) rfl eH rfl bg rfl (λ_ h=>h.2.1) (an a3) (vF (MsgT.mk a1 a2 RowT.zero 0 0 BallotT.zero BallotT.zero ChangeT.zero a3) 0 rfl (by decide) (whole (an a3)))) ?_;refine AL 3 ?_;refine CE Jp (mO a3 (sx hp3)) ID ?_;refine EN (AL 4 ?_);refine SW 2 cd aG ?_;refine EN (PD 5 ?_);refine DN (ac J29 (ai (aH (af (RT 2 [0] be cd (aG _) ?_)))));exact⟨((MsgT.mk a1 a2 RowT.zero 0 0 BallotT.zero BallotT.zero ChangeT.zero a3),(kQ a3)),_,_,rfl,rfl,by simp[cR,fc,fk,pr,aD hp1,aD hp2,aD hp3,h10,h25,h29,h39,h53,h64,h73,MsgT.zero,RecT.zero, *],(ht1.trans (ht2.trans ht3))⟩;refine PS ?_;refine nx J26 (CN (aT (ag (ac J3 (sr λ_ J30=>LW 0 be cd aG ?_)))));refine SW 2 cd aG ?_;refine PS ?_;refine nx J30 (ai (RT 2 [1] be cd (aG _) ?_));exact⟨((MsgT.mk a1 0 RowT.zero 0 0 BallotT.zero BallotT.zero ChangeT.zero ViewT.zero),true),_,_,rfl,rfl,by simp[cR,pr,aD hp1,h10,h25,h29,h39,h53,h64,h73,MsgT.zero,RecT.zero, *],ht1⟩;refine sr λ_ J31=>P2 ?_
 refine ao ?_ ?_<;>intro h29;refine nx J31 (CY (aT ?_))
 exact aE
  (aK (aK (aK (aK (aK (bA rfl (by simp[fk, *]) SB))))))
  (λ_ s=>s)
  (tl11 (():Unit) trivial)
 refine nx J31 (CN (ad (PS ?_)));refine ao ?_ ?_<;>intro h31;refine PS ?_;refine ap ?_
 exact aE
  (aK (aK (aK (aK (aK (bA rfl (by simp[fk, *]) SB))))))
  (λ_ s=>s)
  (tl11 (():Unit) trivial)
 refine PS ?_;refine ap ?_
 exact aE
  (aK (aK (aK (aK (aK (bA rfl (by simp[fk, *]) SB))))))
  (λ_ s=>s)
  (tl11 (():Unit) trivial)
 refine sr λ_ J32=>P2 ?_
 refine ao ?_ ?_<;>intro h10;refine nx J32 (CY (aT ?_))
 exact aE
  (aK (aK (aK (aK (aK (bA rfl (by simp[fc, *]) SB))))))
  (λ_ s=>s)
  (tl5 (():Unit) trivial)
 refine nx J32 (CN (sr λ_ J33=>P2 ?_));refine ao ?_ ?_<;>intro h10;refine nx J33 (CY (aT ?_))
 exact aE
  (aK (aK (aK (aK (aK (bA rfl (by simp[fc, *]) SB))))))
  (λ_ s=>s)
  (tl5 (():Unit) trivial)
 refine nx J33 (CN (ad (PS ?_)));refine ao ?_ ?_<;>intro h13;refine PS ?_;refine ap ?_
 exact aE
  (aK (aK (aK (aK (aK (bA rfl (by simp[fc, *]) SB))))))
  (λ_ s=>s)
  (tl5 (():Unit) trivial)
 refine PS ?_;refine ap ?_
 exact aE
  (aK (aK (aK (aK (aK (bA rfl (by simp[fc, *]) SB))))))
  (λ_ s=>s)
  (tl5 (():Unit) trivial)
theorem AB(rb:Nat)(v:Value)(bs:List UInt8):
 DT 107 #[(.pointer (some ⟨rb,0,none⟩))] (IsB v bs) [ah rb [v] 219] (nO 219 im (λmb:RecT×Bool=> .tuple #[.agg (ints mb.1.flat).toArray, .bool mb.2]) dx v bs rb):=by
 refine BD 65 Tryz.func107 rfl rfl rfl λw0 F hF=>sr λ_ J1=>XZ Is (ints RecT.zero.flat) λb2=>?_
 refine PS ?_;refine nx J1 (sr λ_ J2=>PS ?_);refine CP jg (cQ rb v bs (6)) (SM [1]) (λ_ d _=>(hF).more d) (λcP HP hP=>?_) (λvR HR hR=>?_);obtain⟨vP,rfl,rfl,hpP⟩:=hP;refine ax (WK [0] (aU ?_));exact⟨_,rfl,rfl,by simp[dx,fc,fk,bU hpP, *]⟩;obtain⟨a1,r1,v1,rfl,rfl,hp1,ht1⟩:=hR;have hf1:=ht1 _ hF;refine tp (lv RecT.zero (RecT.mk a1 0 RowT.zero 0 BallotT.zero ChangeT.zero ViewT.zero) [(0,[Value.int .i64 a1])] ef e6 (g:=RecT.sg)) ?_;refine XZ Is (ints RecT.zero.flat) λb4=>?_
 refine SW 0 fH bm ?_;refine nx J2 (ab λ_ J3=>sr λ_ J4=>FA 0 ef aR ?_);refine LT 0 Y3 (.int .i64 (a1)) ?_ (hc:=by exact kF _ rfl);refine nx J4 (au (sr λ_ J5=>PS ?_));refine ao ?_ ?_<;>intro h11;refine PS ?_;refine nx J5 (CY (sr λ_ J6=>PS ?_));refine CP Js (tR rb v1 r1) (SM [1]) (λ_ d _=>(hf1).more d) (λcP HP hP=>?_) (λvR HR hR=>?_);obtain⟨vP,rfl,rfl,hpP⟩:=hP;refine ax (aO (ax (WK [0] (aU ?_))));exact⟨_,rfl,rfl,by simp[dx,fc,fk,aD hp1,bU hpP,h11, *]⟩;obtain⟨a2,r2,v2,rfl,rfl,hp2,ht2⟩:=hR;have hf2:=ht2 _ hf1;refine FA 2 ef ba ?_;refine SP 1 ba aj bm RecT.wp_row ?_;refine nx J6 (ab λ_ J7=>D1 1 mixed ?_);refine LY 0 ef fH bm ?_;refine FD 1 2 ef ba ?_;refine ta 2 rfl (aN (vs:=ints a2.flat) rfl dV rfl ba rfl (λ_ h=>h.2.1) (aj a2) (sa (RecT.mk a1 0 a2 0 BallotT.zero ChangeT.zero ViewT.zero) 0 rfl (by decide) (whole (aj a2)))) ?_;refine AL 3 ?_;refine CE Jh (jS a2 (Ax hp2)) ID ?_;refine EN (AL 4 ?_);refine SW 2 fH bm ?_;refine EN (PD 5 ?_);refine DN (ac J7 (ai (aH (af (RT 2 [0] ef fH (bm _) ?_)))));exact⟨((RecT.mk a1 0 a2 0 BallotT.zero ChangeT.zero ViewT.zero),(hJ a2)),_,_,rfl,rfl,by simp[dx,fc,fk,pr,aD hp1,aD hp2,h11,MsgT.zero,RecT.zero, *],(ht1.trans ht2)⟩;refine PS ?_;refine nx J5 (CN (sr λ_ J8=>PS ?_));refine ao ?_ ?_<;>intro h20;refine PS ?_;refine nx J8 (CY (sr λ_ J9=>PS ?_))
 refine CP jg (cQ rb v1 r1 (5)) (SM [1]) (λ_ d _=>(hf1).more d) (λcP HP hP=>?_) (λvR HR hR=>?_);obtain⟨vP,rfl,rfl,hpP⟩:=hP;refine ax (aO (ax (WK [0] (aU ?_))));exact⟨_,rfl,rfl,by simp[dx,fc,fk,aD hp1,bU hpP,h11,h20, *]⟩;obtain⟨a2,r2,v2,rfl,rfl,hp2,ht2⟩:=hR;have hf2:=ht2 _ hf1;refine FA 1 ef aR ?_;refine SS 1 aR (bm _) (RecT.set_whose _ rfl _) ?_;refine nx J9 (sr λ_ J10=>PS ?_);refine CP Js (tR rb v2 r2) ID (λ_ d _=>(hf2).more d) (λcP HP hP=>?_) (λvR HR hR=>?_);obtain⟨vP,rfl,rfl,hpP⟩:=hP;refine ax (aO (ax (WK [0] (aU ?_))));exact⟨_,rfl,rfl,by simp[dx,fc,fk,aD hp1,aD hp2,bU hpP,h11,h20, *]⟩;obtain⟨a3,r3,v3,rfl,rfl,hp3,ht3⟩:=hR;have hf3:=ht3 _ hf2;refine FA 2 ef ba ?_;refine SP 1 ba aj bm RecT.wp_row ?_;refine nx J10 (ab λ_ J11=>D1 1 mixed ?_);refine LY 0 ef fH bm ?_;refine FD 1 2 ef ba ?_;refine ta 2 rfl (aN (vs:=ints a3.flat) rfl dV rfl ba rfl (λ_ h=>h.2.1) (aj a3) (sa (RecT.mk a1 a2 a3 0 BallotT.zero ChangeT.zero ViewT.zero) 0 rfl (by decide) (whole (aj a3)))) ?_;refine AL 3 ?_;refine CE Jh (jS a3 (Ax hp3)) ID ?_;refine EN (AL 4 ?_);refine SW 2 fH bm ?_;refine EN (PD 5 ?_);refine DN (ac J11 (ai (aH (af (RT 2 [0] ef fH (bm _) ?_)))));exact⟨((RecT.mk a1 a2 a3 0 BallotT.zero ChangeT.zero ViewT.zero),(hJ a3)),_,_,rfl,rfl,by simp[dx,fc,fk,pr,aD hp1,aD hp2,aD hp3,h11,h20,MsgT.zero,RecT.zero, *],(ht1.trans (ht2.trans ht3))⟩;refine PS ?_
 refine nx J8 (CN (sr λ_ J12=>PS ?_));refine ao ?_ ?_<;>intro h32;refine PS ?_;refine nx J12 (CY (ad (PS ?_)));refine CP jg (cQ rb v1 r1 (5)) (SM [1]) (λ_ d _=>(hf1).more d) (λcP HP hP=>?_) (λvR HR hR=>?_);obtain⟨vP,rfl,rfl,hpP⟩:=hP;refine aO (ax (WK [0] (aU ?_)));exact⟨_,rfl,rfl,by simp[dx,fc,fk,aD hp1,bU hpP,h11,h20,h32, *]⟩;obtain⟨a2,r2,v2,rfl,rfl,hp2,ht2⟩:=hR;have hf2:=ht2 _ hf1;refine FA 1 ef aR ?_;refine SS 1 aR (bm _) (RecT.set_whose _ rfl _) ?_;refine ap (ag (ac J3 (sr λ_ J13=>LW 1 ef fH bm ?_)));refine SW 2 fH bm ?_;refine PS ?_;refine nx J13 (ai (RT 2 [0] ef fH (bm _) ?_));exact⟨((RecT.mk a1 a2 RowT.zero 0 BallotT.zero ChangeT.zero ViewT.zero),true),_,_,rfl,rfl,by simp[dx,fc,fk,pr,aD hp1,aD hp2,h11,h20,h32,MsgT.zero,RecT.zero, *],(ht1.trans ht2)⟩;refine PS ?_;refine nx J12 (CN (sr λ_ J14=>PS ?_));refine ao ?_ ?_<;>intro h37;refine PS ?_;refine nx J14 (CY (sr λ_ J15=>PS ?_));refine CP qc (jf rb v1 r1) (SM [1]) (λ_ d _=>(hf1).more d) (λcP HP hP=>?_) (λvR HR hR=>?_);obtain⟨vP,rfl,rfl,hpP⟩:=hP;refine ax (aO (ax (WK [0] (aU ?_))));exact⟨_,rfl,rfl,by simp[dx,fc,fk,aD hp1,bU hpP,h11,h20,h32,h37, *]⟩;obtain⟨a2,r2,v2,rfl,rfl,hp2,ht2⟩:=hR;have hf2:=ht2 _ hf1;refine FA 176 ef aR ?_;refine SS 1 aR (bm _) (RecT.set_epoch _ rfl _) ?_;refine nx J15 (ad (PS ?_))
 refine CP zk (jx rb v2 r2) ID (λ_ d _=>(hf2).more d) (λcP HP hP=>?_) (λvR HR hR=>?_);obtain⟨vP,rfl,rfl,hpP⟩:=hP;refine aO (ax (WK [0] (aU ?_)));exact⟨_,rfl,rfl,by simp[dx,fc,fk,aD hp1,aD hp2,bU hpP,h11,h20,h32,h37, *]⟩;obtain⟨a3,r3,v3,rfl,rfl,hp3,ht3⟩:=hR;have hf3:=ht3 _ hf2;refine FA 177 ef cw ?_;refine SP 1 cw aq bm RecT.wp_ballot ?_;refine ap (ag (ac J3 (sr λ_ J16=>LW 1 ef fH bm ?_)));refine SW 2 fH bm ?_;refine PS ?_;refine nx J16 (ai (RT 2 [0] ef fH (bm _) ?_));exact⟨((RecT.mk a1 0 RowT.zero a2 a3 ChangeT.zero ViewT.zero),true),_,_,rfl,rfl,by simp[dx,fc,fk,pr,aD hp1,aD hp2,aD hp3,h11,h20,h32,h37,MsgT.zero,RecT.zero, *],(ht1.trans (ht2.trans ht3))⟩;refine PS ?_;refine nx J14 (CN (sr λ_ J17=>PS ?_));refine ao ?_ ?_<;>intro h45;refine PS ?_;refine nx J17 (CY (sr λ_ J18=>PS ?_));refine CP qc (jf rb v1 r1) (SM [1]) (λ_ d _=>(hf1).more d) (λcP HP hP=>?_) (λvR HR hR=>?_);obtain⟨vP,rfl,rfl,hpP⟩:=hP;refine ax (aO (ax (WK [0] (aU ?_))));exact⟨_,rfl,rfl,by simp[dx,fc,fk,aD hp1,bU hpP,h11,h20,h32,h37,h45, *]⟩;obtain⟨a2,r2,v2,rfl,rfl,hp2,ht2⟩:=hR;have hf2:=ht2 _ hf1;refine FA 176 ef aR ?_;refine SS 1 aR (bm _) (RecT.set_epoch _ rfl _) ?_;refine nx J18 (sr λ_ J19=>PS ?_);refine CP zk (jx rb v2 r2) ID (λ_ d _=>(hf2).more d) (λcP HP hP=>?_) (λvR HR hR=>?_);obtain⟨vP,rfl,rfl,hpP⟩:=hP;refine ax (aO (ax (WK [0] (aU ?_))))
 exact⟨_,rfl,rfl,by simp[dx,fc,fk,aD hp1,aD hp2,bU hpP,h11,h20,h32,h37,h45, *]⟩;obtain⟨a3,r3,v3,rfl,rfl,hp3,ht3⟩:=hR;have hf3:=ht3 _ hf2;refine FA 177 ef cw ?_;refine SP 1 cw aq bm RecT.wp_ballot ?_;refine nx J19 (ad (PS ?_));refine CP Jr (oT rb v3 r3) ID (λ_ d _=>(hf3).more d) (λcP HP hP=>?_) (λvR HR hR=>?_);obtain⟨vP,rfl,rfl,hpP⟩:=hP;refine aO (ax (WK [0] (aU ?_)));exact⟨_,rfl,rfl,by simp[dx,fc,fk,aD hp1,aD hp2,aD hp3,bU hpP,h11,h20,h32,h37,h45, *]⟩;obtain⟨a4,r4,v4,rfl,rfl,hp4,ht4⟩:=hR;have hf4:=ht4 _ hf3;refine FA 179 ef fq ?_;refine SP 1 fq aJ bm RecT.wp_change ?_;refine ap (ag (ac J3 (sr λ_ J20=>LW 1 ef fH bm ?_)));refine SW 2 fH bm ?_;refine PS ?_;refine nx J20 (ai (RT 2 [0] ef fH (bm _) ?_));exact⟨((RecT.mk a1 0 RowT.zero a2 a3 a4 ViewT.zero),true),_,_,rfl,rfl,by simp[dx,fc,fk,pr,aD hp1,aD hp2,aD hp3,aD hp4,h11,h20,h32,h37,h45,MsgT.zero,RecT.zero, *],(ht1.trans (ht2.trans (ht3.trans ht4)))⟩;refine PS ?_;refine nx J17 (CN (sr λ_ J21=>PS ?_));refine ao ?_ ?_<;>intro h56;refine PS ?_;refine nx J21 (CY (sr λ_ J22=>PS ?_));refine CP Jq (rG rb v1 r1) (SM [1]) (λ_ d _=>(hf1).more d) (λcP HP hP=>?_) (λvR HR hR=>?_);obtain⟨vP,rfl,rfl,hpP⟩:=hP;refine ax (aO (ax (WK [0] (aU ?_))));exact⟨_,rfl,rfl,by simp[dx,fc,fk,aD hp1,bU hpP,h11,h20,h32,h37,h45,h56, *]⟩;obtain⟨a2,r2,v2,rfl,rfl,hp2,ht2⟩:=hR;have hf2:=ht2 _ hf1
 refine FA 182 ef bg ?_;refine SP 1 bg an bm RecT.wp_view ?_;refine nx J22 (ab λ_ J23=>D1 1 mixed ?_);refine LY 0 ef fH bm ?_;refine FD 1 182 ef bg ?_;refine ta 2 rfl (aN (vs:=ints a2.flat) rfl eH rfl bg rfl (λ_ h=>h.2.1) (an a2) (QC (RecT.mk a1 0 RowT.zero 0 BallotT.zero ChangeT.zero a2) 0 rfl (by decide) (whole (an a2)))) ?_;refine AL 3 ?_;refine CE Jp (mO a2 (sx hp2)) ID ?_;refine EN (AL 4 ?_);refine SW 2 fH bm ?_;refine EN (PD 5 ?_);refine DN (ac J23 (ai (aH (af (RT 2 [0] ef fH (bm _) ?_)))));exact⟨((RecT.mk a1 0 RowT.zero 0 BallotT.zero ChangeT.zero a2),(kQ a2)),_,_,rfl,rfl,by simp[dx,fc,fk,pr,aD hp1,aD hp2,h11,h20,h32,h37,h45,h56,MsgT.zero,RecT.zero, *],(ht1.trans ht2)⟩;refine PS ?_;refine nx J21 (CN (aT (ag (ac J3 (sr λ_ J24=>LW 0 ef fH bm ?_)))));refine SW 2 fH bm ?_;refine PS ?_;refine nx J24 (ai (RT 2 [1] ef fH (bm _) ?_));exact⟨((RecT.mk a1 0 RowT.zero 0 BallotT.zero ChangeT.zero ViewT.zero),true),_,_,rfl,rfl,by simp[dx,fc,fk,pr,aD hp1,h11,h20,h32,h37,h45,h56,MsgT.zero,RecT.zero, *],ht1⟩
theorem EQ(rb mb gb:Nat)(v:Value)(bs:List UInt8)(m0:MsgT)(g0:Bool):
 DT 119 #[(.pointer (some ⟨rb,0,none⟩)),(.pointer (some ⟨mb,0,none⟩)),(.pointer (some ⟨gb,0,none⟩))] (IsB v bs) [ah rb [v] 219,ah mb (ints m0.flat) 163,ah gb [(.bool (g0))] 4] (vC (λ_ H=>∃x' r a,H=ah rb [x'] 219::[ah mb (ints a.1.flat) 163,ah gb [.bool a.2] 4]∧Tail v bs x' r∧cR bs=some (a,r)) (λc H=>c=im∧∃(x':Value) (_:Unit),H=ah rb [x'] 219::[ah mb (ints m0.flat) 163,ah gb [.bool g0] 4]∧cR bs=none)):=by
 refine BD 9 Tryz.func119 rfl rfl rfl λw0 F hF=>ad (PS ?_)
 refine CP OT (AE rb v bs) ID (λ_ d _=>(hF).more d) (λcP HP hP=>?_) (λvR HR hR=>?_);obtain⟨vP,rfl,rfl,hpP⟩:=hP;exact WK [0,0,0] (aU ⟨rfl,_,(),rfl,hpP⟩);obtain⟨a1,r1,v1,rfl,rfl,hp1,ht1⟩:=hR;refine P3 ?_;refine SW 1 cd aG ?_;refine S0 2 lc ?_;exact ap (WK [0,0,0] (bu rfl ⟨_,_,_,rfl,ht1,hp1⟩))
theorem Df(x:Value)(bs:List UInt8):
 DT 81 #[x] (IsB x bs) [] (RI (.tuple #[.agg (ints (iR bs).1.flat).toArray, .int .i64 (iR bs).2]) []):=by
 refine Leg.Does.body (vs:=[x]) (n:=18) Tryz.func81 rfl rfl rfl (λw0 F hF=>?_);refine sr λ_ J1=>?_
 refine lZ (aa rfl) rfl rfl rfl mw (λb2=>?_);change TL _ _ _ _ _ _ _ _ _ [ah b2 (ints MsgT.zero.flat) 163];refine pJ ?_;refine nx J1 ?_;clear J1;refine sr λ_ J2=>?_
 refine lZ (aa rfl) rfl rfl rfl mw (λb4=>?_);change TL _ _ _ _ _ _ _ _ _ [ah b4 (ints MsgT.zero.flat) 163,ah b2 (ints MsgT.zero.flat) 163];refine nx J2 ?_;clear J2;refine sr λ_ J3=>?_
 refine lZ (aa rfl) rfl rfl rfl z4 (λb5=>?_);refine bz (i:=0) (aa rfl) rfl rfl rfl rfl rfl lc rfl rfl (lb rfl) rfl rfl ?_;refine nx J3 ?_;clear J3;refine sr λ_ J4=>?_
 refine mv ?_;refine tp (QM rfl rfl) ?_;refine hZ (aa rfl) rfl rfl rfl MC rfl (zd (bs:=bs) (C:=[ah b4 (ints MsgT.zero.flat) 163,ah b5 [(.bool false)] 4]) (caps:=[(.pointer (some ⟨b4,0,none⟩)),(.pointer (some ⟨b5,0,none⟩))]) (A:=λa:MsgT×Bool=>[ah b4 (ints a.1.flat) 163,ah b5 [.bool a.2] 4]) (G:=λ_:Unit=>[ah b4 (ints MsgT.zero.flat) 163,ah b5 [(.bool false)] 4]) (φ:=λa r=>cR bs=some (a,r)) (ψ:=λ_=>cR bs=none) (λ_ h=>h) (λ_ _ h d=>h.more d) OU (λrb=>EQ rb b4 b5 x bs MsgT.zero false)) (λ_ s=>aC [1,0] rfl s) (λ_ d _=>(hF).more d) (λvR HR hR=>?_);rcases hR with⟨r,⟨m,g⟩,rfl,rfl,hs⟩| ⟨_,rfl,rfl,hs⟩
 refine ao (λh9=>?_) (λh9=>?_);refine pJ ?_;refine nx J4 ?_;clear J4;refine ab λ_ J5=>?_
 refine sr λ_ J6=>?_
 refine mv ?_;refine tp (mG (r:=false) rfl rfl rfl) ?_;refine mv ?_;refine tq (e4 (v:=(.bool (g))) rfl Y4 rfl rfl (dS 1 rfl rfl) rfl) ?_;refine bc (λh13=>?_) (λh13=>?_);refine tq (mG (r:=false) rfl rfl rfl) ?_;refine tp (mj rfl rfl rfl) ?_;refine nx J6 ?_;clear J6;refine tt rfl ?_;refine aT ?_;refine ac J5 ?_;clear J5;refine sr λ_ J7=>?_
 refine tp (aN (vs:=ints m.flat) rfl be rfl cd rfl (dS 0 rfl rfl) (aG m) (whole (aG m))) ?_;refine bO (vs:=ints m.flat) (i:=2) (aa rfl) rfl rfl rfl rfl rfl (by rw[(aG m)];exact cd) (bk _) rfl rfl (by have h0:=(aG MsgT.zero);have h1:=(aG m);omega) (ct ((aG MsgT.zero).trans (aG m).symm)) rfl ?_;refine pJ ?_;refine nx J7 ?_;clear J7;refine ai ?_;refine l3 (H':=[]) rfl rfl rfl be rfl cd (dS 2 rfl rfl) (aG m) (λ_ s=>ak [] rfl s) ?_;exact⟨by simp[iR, *],rfl⟩;refine tq (mG (r:=true) rfl rfl rfl) ?_;refine tp (mj rfl rfl rfl) ?_;refine nx J6 ?_;clear J6;refine iU rfl ?_;refine sr λ_ J8=>?_
 refine tp (j6 (cells:=(ints MsgT.zero.flat).toArray) rfl rfl (by as_aux_lemma=>kernel_rfl)) ?_;refine bO (vs:=ints MsgT.zero.flat) (i:=2) (aa rfl) rfl rfl rfl rfl rfl (by rw[(aG MsgT.zero)];exact cd) (bk _) rfl rfl (by have h0:=(aG MsgT.zero);have h1:=(aG MsgT.zero);omega) (ct ((aG MsgT.zero).trans (aG MsgT.zero).symm)) rfl ?_;refine pJ ?_;refine nx J8 ?_;clear J8;refine ai ?_;refine af ?_;clear J5;refine l3 (H':=[]) rfl rfl rfl be rfl cd (dS 2 rfl rfl) (aG MsgT.zero) (λ_ s=>ak [] rfl s) ?_;exact⟨by simp[iR, *],rfl⟩;refine pJ ?_;refine nx J4 ?_;clear J4;refine ab λ_ J9=>?_
 refine sr λ_ J10=>?_
 refine mv ?_;refine tp (mG (r:=true) rfl rfl rfl) ?_;refine mv ?_;refine k0 (b:=true) rfl rfl rfl rfl (lb rfl) ?_;refine k0 (b:=true) rfl rfl rfl rfl (lb rfl) ?_;refine tp (mj rfl rfl rfl) ?_;refine nx J10 ?_;clear J10;refine iU rfl ?_;refine sr λ_ J11=>?_
 refine tp (j6 (cells:=(ints MsgT.zero.flat).toArray) rfl rfl (by as_aux_lemma=>kernel_rfl)) ?_;refine bO (vs:=ints MsgT.zero.flat) (i:=2) (aa rfl) rfl rfl rfl rfl rfl (by rw[(aG MsgT.zero)];exact cd) (bk _) rfl rfl (by have h0:=(aG MsgT.zero);have h1:=(aG MsgT.zero);omega) (ct ((aG MsgT.zero).trans (aG MsgT.zero).symm)) rfl ?_;refine pJ ?_;refine nx J11 ?_;clear J11;refine ai ?_;refine af ?_;clear J9;refine l3 (H':=[]) rfl rfl rfl be rfl cd (dS 2 rfl rfl) (aG MsgT.zero) (λ_ s=>ak [] rfl s) ?_;exact⟨by simp[iR, *],rfl⟩;refine pJ ?_;refine nx J4 ?_;clear J4;refine ab λ_ J12=>?_
 refine sr λ_ J13=>?_
 refine mv ?_;refine tp (mG (r:=true) rfl rfl rfl) ?_;refine mv ?_;refine k0 (b:=true) rfl rfl rfl rfl (lb rfl) ?_;refine k0 (b:=true) rfl rfl rfl rfl (lb rfl) ?_;refine tp (mj rfl rfl rfl) ?_;refine nx J13 ?_;clear J13;refine iU rfl ?_;refine sr λ_ J14=>?_
 refine tp (j6 (cells:=(ints MsgT.zero.flat).toArray) rfl rfl (by as_aux_lemma=>kernel_rfl)) ?_;refine bO (vs:=ints MsgT.zero.flat) (i:=2) (aa rfl) rfl rfl rfl rfl rfl (by rw[(aG MsgT.zero)];exact cd) (bk _) rfl rfl (by have h0:=(aG MsgT.zero);have h1:=(aG MsgT.zero);omega) (ct ((aG MsgT.zero).trans (aG MsgT.zero).symm)) rfl ?_;refine pJ ?_;refine nx J14 ?_;clear J14;refine ai ?_;refine af ?_;clear J12;refine l3 (H':=[]) rfl rfl rfl be rfl cd (dS 2 rfl rfl) (aG MsgT.zero) (λ_ s=>ak [] rfl s) ?_;exact⟨by simp[iR, *],rfl⟩
theorem G6(rb mb gb:Nat)(v:Value)(bs:List UInt8)(m0:RecT)(g0:Bool):
 DT 106 #[(.pointer (some ⟨rb,0,none⟩)),(.pointer (some ⟨mb,0,none⟩)),(.pointer (some ⟨gb,0,none⟩))] (IsB v bs) [ah rb [v] 219,ah mb (ints m0.flat) 146,ah gb [(.bool (g0))] 4] (vC (λ_ H=>∃x' r a,H=ah rb [x'] 219::[ah mb (ints a.1.flat) 146,ah gb [.bool a.2] 4]∧Tail v bs x' r∧dx bs=some (a,r)) (λc H=>c=im∧∃(x':Value) (_:Unit),H=ah rb [x'] 219::[ah mb (ints m0.flat) 146,ah gb [.bool g0] 4]∧dx bs=none)):=by
 refine BD 9 Tryz.func106 rfl rfl rfl λw0 F hF=>ad (PS ?_)
 refine CP O1 (AB rb v bs) ID (λ_ d _=>(hF).more d) (λcP HP hP=>?_) (λvR HR hR=>?_);obtain⟨vP,rfl,rfl,hpP⟩:=hP;exact WK [0,0,0] (aU ⟨rfl,_,(),rfl,hpP⟩);obtain⟨a1,r1,v1,rfl,rfl,hp1,ht1⟩:=hR;refine P3 ?_;refine SW 1 fH bm ?_;refine S0 2 lc ?_;exact ap (WK [0,0,0] (bu rfl ⟨_,_,_,rfl,ht1,hp1⟩))
theorem vk(x:Value)(bs:List UInt8):
 DT 68 #[x] (IsB x bs) [] (RI (.tuple #[.agg (ints (oo bs).1.flat).toArray, .int .i64 (oo bs).2]) []):=by
 refine Leg.Does.body (vs:=[x]) (n:=18) Tryz.func68 rfl rfl rfl (λw0 F hF=>?_);refine sr λ_ J1=>?_
 refine lZ (aa rfl) rfl rfl rfl Is (λb2=>?_);change TL _ _ _ _ _ _ _ _ _ [ah b2 (ints RecT.zero.flat) 146];refine pJ ?_;refine nx J1 ?_;clear J1;refine sr λ_ J2=>?_
 refine lZ (aa rfl) rfl rfl rfl Is (λb4=>?_);change TL _ _ _ _ _ _ _ _ _ [ah b4 (ints RecT.zero.flat) 146,ah b2 (ints RecT.zero.flat) 146];refine nx J2 ?_;clear J2;refine sr λ_ J3=>?_
 refine lZ (aa rfl) rfl rfl rfl z4 (λb5=>?_);refine bz (i:=0) (aa rfl) rfl rfl rfl rfl rfl lc rfl rfl (lb rfl) rfl rfl ?_;refine nx J3 ?_;clear J3;refine sr λ_ J4=>?_
 refine mv ?_;refine tp (QM rfl rfl) ?_;refine hZ (aa rfl) rfl rfl rfl MC rfl (zd (bs:=bs) (C:=[ah b4 (ints RecT.zero.flat) 146,ah b5 [(.bool false)] 4]) (caps:=[(.pointer (some ⟨b4,0,none⟩)),(.pointer (some ⟨b5,0,none⟩))]) (A:=λa:RecT×Bool=>[ah b4 (ints a.1.flat) 146,ah b5 [.bool a.2] 4]) (G:=λ_:Unit=>[ah b4 (ints RecT.zero.flat) 146,ah b5 [(.bool false)] 4]) (φ:=λa r=>dx bs=some (a,r)) (ψ:=λ_=>dx bs=none) (λ_ h=>h) (λ_ _ h d=>h.more d) O2 (λrb=>G6 rb b4 b5 x bs RecT.zero false)) (λ_ s=>aC [1,0] rfl s) (λ_ d _=>(hF).more d) (λvR HR hR=>?_);rcases hR with⟨r,⟨m,g⟩,rfl,rfl,hs⟩| ⟨_,rfl,rfl,hs⟩
 refine ao (λh9=>?_) (λh9=>?_);refine pJ ?_;refine nx J4 ?_;clear J4;refine ab λ_ J5=>?_
 refine sr λ_ J6=>?_
 refine mv ?_;refine tp (mG (r:=false) rfl rfl rfl) ?_;refine mv ?_;refine tq (e4 (v:=(.bool (g))) rfl Y4 rfl rfl (dS 1 rfl rfl) rfl) ?_;refine bc (λh13=>?_) (λh13=>?_);refine tq (mG (r:=false) rfl rfl rfl) ?_;refine tp (mj rfl rfl rfl) ?_;refine nx J6 ?_;clear J6;refine tt rfl ?_;refine aT ?_;refine ac J5 ?_;clear J5;refine sr λ_ J7=>?_
 refine tp (aN (vs:=ints m.flat) rfl ef rfl fH rfl (dS 0 rfl rfl) (bm m) (whole (bm m))) ?_;refine bO (vs:=ints m.flat) (i:=2) (aa rfl) rfl rfl rfl rfl rfl (by rw[(bm m)];exact fH) (bk _) rfl rfl (by have h0:=(bm RecT.zero);have h1:=(bm m);omega) (ct ((bm RecT.zero).trans (bm m).symm)) rfl ?_;refine pJ ?_;refine nx J7 ?_;clear J7;refine ai ?_;refine l3 (H':=[]) rfl rfl rfl ef rfl fH (dS 2 rfl rfl) (bm m) (λ_ s=>ak [] rfl s) ?_;exact⟨by simp[oo, *],rfl⟩;refine tq (mG (r:=true) rfl rfl rfl) ?_;refine tp (mj rfl rfl rfl) ?_;refine nx J6 ?_;clear J6;refine iU rfl ?_;refine sr λ_ J8=>?_
 refine tp (j6 (cells:=(ints RecT.zero.flat).toArray) rfl rfl (by as_aux_lemma=>kernel_rfl)) ?_;refine bO (vs:=ints RecT.zero.flat) (i:=2) (aa rfl) rfl rfl rfl rfl rfl (by rw[(bm RecT.zero)];exact fH) (bk _) rfl rfl (by have h0:=(bm RecT.zero);have h1:=(bm RecT.zero);omega) (ct ((bm RecT.zero).trans (bm RecT.zero).symm)) rfl ?_;refine pJ ?_;refine nx J8 ?_;clear J8;refine ai ?_;refine af ?_;clear J5;refine l3 (H':=[]) rfl rfl rfl ef rfl fH (dS 2 rfl rfl) (bm RecT.zero) (λ_ s=>ak [] rfl s) ?_;exact⟨by simp[oo, *],rfl⟩;refine pJ ?_;refine nx J4 ?_;clear J4;refine ab λ_ J9=>?_
 refine sr λ_ J10=>?_
 refine mv ?_;refine tp (mG (r:=true) rfl rfl rfl) ?_;refine mv ?_;refine k0 (b:=true) rfl rfl rfl rfl (lb rfl) ?_;refine k0 (b:=true) rfl rfl rfl rfl (lb rfl) ?_;refine tp (mj rfl rfl rfl) ?_;refine nx J10 ?_;clear J10;refine iU rfl ?_;refine sr λ_ J11=>?_
 refine tp (j6 (cells:=(ints RecT.zero.flat).toArray) rfl rfl (by as_aux_lemma=>kernel_rfl)) ?_;refine bO (vs:=ints RecT.zero.flat) (i:=2) (aa rfl) rfl rfl rfl rfl rfl (by rw[(bm RecT.zero)];exact fH) (bk _) rfl rfl (by have h0:=(bm RecT.zero);have h1:=(bm RecT.zero);omega) (ct ((bm RecT.zero).trans (bm RecT.zero).symm)) rfl ?_;refine pJ ?_;refine nx J11 ?_;clear J11;refine ai ?_;refine af ?_;clear J9;refine l3 (H':=[]) rfl rfl rfl ef rfl fH (dS 2 rfl rfl) (bm RecT.zero) (λ_ s=>ak [] rfl s) ?_;exact⟨by simp[oo, *],rfl⟩;refine pJ ?_;refine nx J4 ?_;clear J4;refine ab λ_ J12=>?_
 refine sr λ_ J13=>?_
 refine mv ?_;refine tp (mG (r:=true) rfl rfl rfl) ?_;refine mv ?_;refine k0 (b:=true) rfl rfl rfl rfl (lb rfl) ?_;refine k0 (b:=true) rfl rfl rfl rfl (lb rfl) ?_;refine tp (mj rfl rfl rfl) ?_;refine nx J13 ?_;clear J13;refine iU rfl ?_;refine sr λ_ J14=>?_
 refine tp (j6 (cells:=(ints RecT.zero.flat).toArray) rfl rfl (by as_aux_lemma=>kernel_rfl)) ?_;refine bO (vs:=ints RecT.zero.flat) (i:=2) (aa rfl) rfl rfl rfl rfl rfl (by rw[(bm RecT.zero)];exact fH) (bk _) rfl rfl (by have h0:=(bm RecT.zero);have h1:=(bm RecT.zero);omega) (ct ((bm RecT.zero).trans (bm RecT.zero).symm)) rfl ?_;refine pJ ?_;refine nx J14 ?_;clear J14;refine ai ?_;refine af ?_;clear J12;refine l3 (H':=[]) rfl rfl rfl ef rfl fH (dS 2 rfl rfl) (bm RecT.zero) (λ_ s=>ak [] rfl s) ?_;exact⟨by simp[oo, *],rfl⟩
open Dsk Wal
theorem tm(b c s r:Nat)(us:List Value)(ls:List (List UInt8)):
 DT 77 #[(.pointer (some ⟨b,0,none⟩))] T0 [ah b [(.chan (some c))] 184,ee c 8 (us) (s) (r),eD (us) (ls) 5] (RI (.int .i64 ((ls.length:Nat):Int)) [ah b [(.chan (some c))] 184,ee c 8 (us) (s) (r),eD (us) (ls) 5]):=by
 refine BD 8 Tryz.func77 rfl rfl rfl λw0 F hF=>sr λ_ J1=>PS ?_
 refine nx J1 (sr λ_ J2=>yH (p:=us.length=ls.length) (λw m=>(qQ 2 rfl rfl m).1) (λhul=>P2 ?_));refine FA 0 DJ uF ?_;refine LA 0 vz ?_;refine tp (PV.lenChan 1 rfl vz rfl rfl rfl) ?_;refine PS ?_;refine nx J2 (ai (WK [0,0,0] (av rfl rfl ?_)));exact⟨by rw[hul],rfl⟩
theorem kB(b:Nat)(ls:List (List UInt8)):DT 77 #[.pointer (some ⟨b,0,none⟩)] T0 [ib 184 5 b ls] (RI (.int .i64 ((ls.length:Nat):Int)) [ib 184 5 b ls]):=
 Leg.Does.pack (B:=[]) λq=>Leg.Does.fold (tm b q.1 q.2.2.1 q.2.2.2 q.2.1 ls) λe H hp=>by
  cases e with
  |returned v=>
   obtain⟨rfl,rfl⟩:=hp;exact⟨_,λ_ s=>bp (p:=λq:Nat×List Value×Nat×Nat=>[ah b [.chan (some q.1)] 184,ee q.1 8 q.2.1 q.2.2.1 q.2.2.2,eD q.2.1 ls 5]) (H:=[]) q s,rfl,rfl⟩
  |panicked c=>exact hp.elim
  |outgrown=>exact hp.elim
theorem Bi(b c s r:Nat)(us:List Value)(ls:List (List UInt8))(x:Value)(bs:List UInt8)(hb:bs.length≤1000000):
 DT 116 #[(.pointer (some ⟨b,0,none⟩)),x] (IsW x bs) [ah b [(.chan (some c))] 184,ee c 8 (us) (s) (r),eD (us) (ls) 5] (dm (λv H=>(ls.length<8∧v= .bool true∧∃u,H=[ah b [(.chan (some c))] 184,ee c 8 (us++[u]) (s+1) r,eD us ls 5,ce u bs 5])∨(¬ls.length<8∧v= .bool false∧H=[ah b [(.chan (some c))] 184,ee c 8 (us) (s) (r),eD (us) (ls) 5]))):=by
 refine Leg.Does.body (vs:=[(.pointer (some ⟨b,0,none⟩)),x]) (n:=15) Tryz.func116 rfl rfl rfl (λw0 F hF=>?_);refine sr λ_ J1=>?_
 refine pJ ?_;refine nx J1 ?_;refine ab λ_ J2=>?_
 refine sr λ_ J3=>?_
 refine yH (p:=us.length=ls.length) (λw m=>(qQ 2 rfl rfl m).1) (λhul=>?_);refine mv ?_;refine tp (gf rfl rfl) ?_;refine tp (aZ (r:=0) rfl DJ rfl uF rfl rfl) ?_;refine tp (e4 (v:=(.chan (some c))) rfl vz rfl rfl (dS 0 rfl rfl) rfl) ?_;refine nx J3 ?_;refine ad ?_;refine DM (aa rfl) rfl rfl rfl fE jK (λv9=>?_);change TL _ _ _ _ _ _ _ _ _ [ce v9 ([]) 5,ah b [(.chan (some c))] 184,ee c 8 (us) (s) (r),eD (us) (ls) 5];refine mv ?_;refine cj (k:=0) (news:=dH (bs)) (nn':=(bs:List UInt8).length) (xs':=dH (bs)) (aa rfl) rfl rfl rfl fE yc rfl rfl rfl rfl rfl rfl (λ_ _=>hF.src (λ_ h=>eb h)) (eV _) (by simp only[maxLen,aw];omega) (by simp only[aw];omega) (by simp) (bK _) (λv11 ov11=>?_);change TL _ _ _ _ _ _ _ _ _ [ce v11 (bs) 5,ah b [(.chan (some c))] 184,ee c 8 (us) (s) (r),eD (us) (ls) 5];refine nx J2 ?_;refine ab λ_ J4=>?_
 refine yJ ?_;change TX _ _ _ _ _ _ [0,1,2] _ _ _
 by_cases hroom:us.length<8
 refine TX.sendRoom 2 rfl (aa rfl) rfl rfl rfl z53 rfl rfl rfl rfl hroom ?_;change TX _ _ _ _ _ _ _ _ _ [ce v11 (bs) 5,ah b [(.chan (some c))] 184,ee c 8 (us++[v11]) (s+1) (r),eD (us) (ls) 5];refine tr rfl (aa rfl) rfl rfl (gX (vs:=[(.int .i64 0),(.bool false)]) rfl rfl rfl) ?_;refine tr rfl (aa rfl) rfl rfl (Pi rfl rfl rfl) ?_;refine L4 ?_;refine ac J4 ?_;refine au ?_;refine iU rfl ?_;refine sr λ_ J5=>?_
 refine pJ ?_;refine nx J5 ?_;refine ai ?_;refine aH ?_;refine aE (db _) (λ_ s=>ak [1,1,1,0] rfl s) ?_;refine av rfl rfl ?_;exact Or.inl ⟨by omega,rfl,_,rfl⟩;refine TX.sendFull 2 rfl (aa rfl) rfl rfl rfl z53 rfl rfl rfl rfl (by omega) ?_;refine tr rfl (aa rfl) rfl rfl (gX (vs:=[(.int .i64 (-1)),(.bool false)]) rfl rfl rfl) ?_;refine tr rfl (aa rfl) rfl rfl (Pi rfl rfl rfl) ?_;refine L4 ?_;refine ac J4 ?_;refine au ?_;refine tt rfl ?_;refine sr λ_ J6=>?_
 refine pJ ?_;refine nx J6 ?_;refine ai ?_;refine aH ?_;refine aE (db _) (λ_ s=>ak [1,1,1] rfl s) ?_;refine av rfl rfl ?_;exact Or.inr ⟨by omega,rfl,rfl⟩
theorem vc(b:Nat)(ls:List (List UInt8))(x:Value)(bs:List UInt8)(hb:bs.length≤1000000):DT 116 #[.pointer (some ⟨b,0,none⟩),x] (IsW x bs) [ib 184 5 b ls] (RI (.bool (decide (ls.length<8))) [ib 184 5 b (AI ls bs)]):=
 Leg.Does.pack (B:=[]) λq=>Leg.Does.fold (Bi b q.1 q.2.2.1 q.2.2.2 q.2.1 ls x bs hb) λe H hp=>by
  cases e with
  |returned v=>
   unfold AI;rcases hp with⟨h8,rfl,u,rfl⟩| ⟨h8,rfl,rfl⟩
   · refine⟨[ib 184 5 b (ls++[bs])],λ_ s=>?_,by rw[decide_eq_true h8],by rw[if_pos h8]⟩
     have s1:=Ap 3 rfl rfl s;have s2:=aC [2,2] rfl s1;have s3:=uu s2;exact bp (p:=λq:Nat×List Value×Nat×Nat=>[ah b [.chan (some q.1)] 184,ee q.1 8 q.2.1 q.2.2.1 q.2.2.2,eD q.2.1 (ls++[bs]) 5]) (H:=[]) (q.1,q.2.1++[u],q.2.2.1+1,q.2.2.2) (aC [1,1,0] rfl s3)
   · exact⟨[ib 184 5 b ls],λ_ s=>bp (p:=λq:Nat×List Value×Nat×Nat=>[ah b [.chan (some q.1)] 184,ee q.1 8 q.2.1 q.2.2.1 q.2.2.2,eD q.2.1 ls 5]) (H:=[]) q s,by rw[decide_eq_false h8],by rw[if_neg h8]⟩
  |panicked c=>exact hp.elim
  |outgrown=>exact hp.elim
theorem yD(b c s r:Nat)(us:List Value)(ls:List (List UInt8)):
 DT 117 #[(.pointer (some ⟨b,0,none⟩))] T0 [ah b [(.chan (some c))] 184,ee c 8 (us) (s) (r),eD (us) (ls) 5] (dm (λv H=>(ls=[]∧v= .tuple #[.slice none 0 0, .bool false]∧H=[ah b [(.chan (some c))] 184,ee c 8 [] s r,eD [] ls 5])∨(∃u us' f ls',ls=f::ls'∧v= .tuple #[u, .bool true]∧H=[ah b [(.chan (some c))] 184,ee c 8 us' s (r+1),eD (u::us') (f::ls') 5]))):=by
 refine BD 14 Tryz.func117 rfl rfl rfl λw0 F hF=>sr λ_ J1=>P2 ?_
 refine nx J1 (sr λ_ J2=>yH (p:=us.length=ls.length) (λw m=>(qQ 2 rfl rfl m).1) (λhul=>P2 ?_));refine FA 0 DJ uF ?_;refine LA 0 vz ?_;refine nx J2 (ab λ_ J3=>yJ ?_);rcases us with _| ⟨u,us⟩
 refine TX.recvNone 1 rfl (aa rfl) rfl rfl rfl z53 rfl rfl rfl (tr rfl (aa rfl) rfl rfl (gX (vs:=[(.int .i64 (-1)),(.bool false),(.slice none 0 0)]) rfl rfl rfl) (tr rfl (aa rfl) rfl rfl (Pi rfl rfl rfl) (L4 (ac J3 (au (CN (sr λ_ J4=>P2 ?_)))))));exact nx J4 (ai (aH (WK [0,0,0] (gU rfl rfl rfl (Or.inl ⟨List.eq_nil_of_length_eq_zero hul.symm,rfl,rfl⟩)))));rcases ls with _| ⟨f,ls⟩
 · cases hul
 refine TX.recvBuf 1 rfl (aa rfl) rfl rfl rfl z53 rfl rfl rfl (tr rfl (aa rfl) rfl rfl (gX (vs:=[(.int .i64 0),(.bool true),u]) rfl rfl rfl) (tr rfl (aa rfl) rfl rfl (Pi rfl rfl rfl) (L4 (ac J3 (au (CY (sr λ_ J5=>P2 ?_)))))));refine nx J5 (sr λ_ J6=>P3 ?_);exact nx J6 (ai (aH (WK [0,0,0] (gU rfl rfl rfl (Or.inr ⟨u,us,f,ls,rfl,rfl,rfl⟩)))))
theorem tl(b:Nat)(ls:List (List UInt8)):DT 117 #[.pointer (some ⟨b,0,none⟩)] T0 [ib 184 5 b ls] (dm (λv H=>(ls=[]∧v= .tuple #[.slice none 0 0, .bool false]∧H=[ib 184 5 b []])∨(∃u f ls',ls=f::ls'∧v= .tuple #[u, .bool true]∧H=[ib 184 5 b ls',gI u f 5]))):=
 Leg.Does.pack (B:=[]) λq=>Leg.Does.fold (yD b q.1 q.2.2.1 q.2.2.2 q.2.1 ls) λe H hp=>by
  cases e with
  |returned v=>
   rcases hp with⟨rfl,rfl,rfl⟩| ⟨u,us',f,ls',rfl,rfl,rfl⟩
   · exact⟨[ib 184 5 b []],λ_ s=>bp (p:=λq:Nat×List Value×Nat×Nat=>[ah b [.chan (some q.1)] 184,ee q.1 8 q.2.1 q.2.2.1 q.2.2.2,eD q.2.1 [] 5]) (H:=[]) (q.1,[],q.2.2.1,q.2.2.2) s,Or.inl ⟨rfl,rfl,rfl⟩⟩
   · refine⟨[ib 184 5 b ls',gI u f 5],λ_ s=>?_,Or.inr ⟨u,f,ls',rfl,rfl,rfl⟩⟩
     have s1:=aC [2] rfl s;have s2:=Ic s1;exact bp (p:=λq:Nat×List Value×Nat×Nat=>[ah b [.chan (some q.1)] 184,ee q.1 8 q.2.1 q.2.2.1 q.2.2.2,eD q.2.1 ls' 5]) (H:=[gI u f 5]) (q.1,us',q.2.2.1,q.2.2.2+1) (aC [2,2,1,0] rfl s2)
  |panicked c=>exact hp.elim
  |outgrown=>exact hp.elim
theorem Bj:
 DT 65 #[(.int .i64 8)] T0 [] (dm (λv H=>∃b c,v= .pointer (some ⟨b,0,none⟩)∧H=[ah b [(.chan (some c))] 184,ee c 8 [] 0 0])):=by
 refine BD 9 Tryz.func65 rfl rfl rfl λw0 F hF=>sr λ_ J1=>PS ?_
 refine nx J1 (sr λ_ J2=>PS ?_);refine tp (Gu (v':=(.int .i64 8)) (yP rfl rfl rfl) rfl) ?_;refine tp (Gu (v':=(.int .i64 8)) (PV.minI rfl rfl rfl) rfl) ?_;refine TL.makeChan (k:=8) (bytes:=24) (aa rfl) rfl rfl rfl vz (by kernel_rfl) rfl (by omega) (by omega) (λc6=>BV #[(.chan (some c6))] ?_);refine XB λb8=>?_
 refine PS ?_;exact nx J2 (ai (WK [0,0] (av rfl rfl ⟨b8,c6,rfl,rfl⟩)))
theorem DD:DT 65 #[.int .i64 8] T0 [] (dm (λv H=>∃b,v= .pointer (some ⟨b,0,none⟩)∧H=[ib 184 5 b []])):=
 Leg.Does.fold Bj λe H hp=>by
  cases e with
  |returned v=>
   obtain⟨b,c,rfl,rfl⟩:=hp;exact⟨[ib 184 5 b []],λ_ s=>bp (p:=λq:Nat×List Value×Nat×Nat=>[ah b [.chan (some q.1)] 184,ee q.1 8 q.2.1 q.2.2.1 q.2.2.2,eD q.2.1 [] 5]) (H:=[]) (c,[],0,0) (aC [1,1,0] rfl (zK s)),b,rfl,rfl⟩
  |panicked c=>exact hp.elim
  |outgrown=>exact hp.elim
theorem po(w:Int):
 DT 115 #[(.int .i64 (w))] T0 [] (RI (.bool (gQ w)) []):=by
 refine BD 9 Tryz.func115 rfl rfl rfl λw0 F hF=>sr λ_ J1=>PS ?_
 refine nx J1 (sr λ_ J2=>P2 ?_);refine ao ?_ ?_<;>intro h4
 iterate 5 refine PS ?_
 refine nx J2 (ai (WK [] (av rfl rfl ?_)));exact⟨congrArg Value.bool (by unfold gQ;simp only[decide_eq_decide];omega),rfl⟩;refine PS ?_;refine UF ?_;refine UF ?_;refine P2 ?_;refine nx J2 (ai (WK [] (av rfl rfl ?_)));exact⟨congrArg Value.bool (by unfold gQ;symm;exact decide_eq_false (by omega)),rfl⟩
theorem mN(n:Nat)(bs:List Nat)(from' to':Int):
 DT 76 #[(.pointer (some ⟨n,0,none⟩)),(.int .i64 (from')),(.int .i64 (to'))] T0 [ah n (fb bs) 135] (dm (λv H=>((dL from' to'=true∧v= .pointer (some ⟨(bs.getD (bC from' to') 0),0,none⟩))∨(dL from' to'=false∧v= .pointer none))∧H=[ah n (fb bs) 135])):=by
 refine BD 23 Tryz.func76 rfl rfl rfl λw0 F hF=>sr λ_ J1=>PS ?_
 refine nx J1 (ab λ_ J2=>sr λ_ J3=>PS ?_);refine CE My (po from') ID ?_;refine bc ?_ ?_<;>intro h8;have hf:0≤from'∧from'<5:=of_decide_eq_true h8
 refine PS ?_;refine P2 ?_;refine CE My (po to') ID ?_;refine bc ?_ ?_<;>intro h12;have ht:0≤to'∧to'<5:=of_decide_eq_true h12;refine PS ?_;refine PS ?_;refine nx J3 (CN (qx J2 (sr λ_ J4=>P4 ?_)));refine FA 0 Tryz.underlying135 Mb ?_;refine IX (((from').toNat)*5) Tryz.underlying133 Mc ?_;refine IX (((from').toNat)*5+(to').toNat) Tryz.underlying132 IM ?_;refine LT 0 Bn (if bC from' to'%6=0 then .pointer none else .pointer (some ⟨(bs.getD (bC from' to') 0),0,none⟩)) ?_ (hc:=by exact I8 bs (k:=bC from' to') (by unfold bC;omega));refine PS ?_;refine nx J4 (ai (WK [0] (av rfl rfl ⟨?_,rfl⟩)))
 by_cases hd:from'=to'
 · rw[if_pos ((tD h8 h12).2 hd)]
   exact Or.inr ⟨by unfold dL;rw[decide_eq_true hd];simp,rfl⟩
 · rw[if_neg (λq=>hd ((tD h8 h12).1 q))]
   exact Or.inl ⟨by unfold dL;rw[h8,h12,decide_eq_false hd];rfl,rfl⟩
 refine PS ?_;refine PS ?_;refine nx J3 (CY (sr λ_ J5=>PS ?_));refine nx J5 (ai (af (WK [0] (av rfl rfl ?_))));exact⟨Or.inr ⟨by unfold dL;rw[h12];simp,rfl⟩,rfl⟩;refine PS ?_;refine PS ?_
 iterate 3 refine UT ?_
 refine PS ?_;refine nx J3 (CY (sr λ_ J6=>PS ?_));refine nx J6 (ai (af (WK [0] (av rfl rfl ?_))));exact⟨Or.inr ⟨by unfold dL;rw[h8];simp,rfl⟩,rfl⟩
def sU(W:List (List (List UInt8)))(f t:Int):Bool:=dL f t&&decide ((W.getD (bC f t) []).length<8)
theorem yq(n:Nat)(bs:List Nat)(W:List (List (List UInt8)))(from' to':Int)(x:Value)(by':List UInt8)(hb:by'.length≤1000000)(hW:W.length=25):
 DT 212 #[(.pointer (some ⟨n,0,none⟩)),(.int .i64 (from')),(.int .i64 (to')),x] (IsW x by') [ah n (fb bs) 135,fL 184 5 bs W] (RI (.bool (sU W from' to')) [ah n (fb bs) 135,fL 184 5 bs (oW W from' to' by')]):=by
 refine BD 21 Tryz.func212 rfl rfl rfl λw0 F hF=>sr λ_ J1=>PS ?_
 refine nx J1 (sr λ_ J2=>P3 ?_);refine CR EI (mN n bs from' to') ID λvR HR hR=>?_
 obtain⟨hw,rfl⟩:=hR;rcases hw with⟨hv,rfl⟩| ⟨hv,rfl⟩
 refine PS ?_;refine nx J2 (sr λ_ J3=>PS ?_);refine tp (jq rfl Bn rfl rfl) ?_;refine P3 ?_;refine cm (H':=[ib 184 5 (bs.getD (bC from' to') 0) (W.getD (bC from' to') []),gn 184 5 bs W (bC from' to'),ah n (fb bs) 135]) (λ_ s=>nT hv (aC [1] rfl s)) (CF Jv (vc (bs.getD (bC from' to') 0) (W.getD (bC from' to') []) x by' hb) ID (λ_ d _=>Po hF d) ?_);refine P2 ?_;refine nx J3 (ai (aE (H':=[ah n (fb bs) 135,fL 184 5 bs (oW W from' to' by')]) (db _) (λ_ s=>by unfold oW;rw[if_pos hv];exact aC [1,0] rfl (tC hv hW (aC [0,0,0] rfl s))) (av rfl rfl ?_)));exact⟨by unfold sU;rw[hv];rfl,rfl⟩;refine PS ?_;refine nx J2 (sr λ_ J4=>PS ?_);refine tp (iX rfl Bn rfl rfl) ?_;refine PS ?_
 iterate 3 refine UF ?_
 refine P2 ?_;refine nx J4 (ai (WK [0,0] (av rfl rfl ?_)));exact⟨by unfold sU;rw[hv];rfl,by unfold oW;rw[hv];rfl⟩
theorem AP(n:Nat)(W:List (List (List UInt8)))(from' to':Int)(x:Value)(by':List UInt8)(hb:by'.length≤1000000)(hW:W.length=25):DT 212 #[.pointer (some ⟨n,0,none⟩), .int .i64 from', .int .i64 to',x] (IsW x by') [eJ 135 184 5 n W] (RI (.bool (sU W from' to')) [eJ 135 184 5 n (oW W from' to' by')]):=
 Leg.Does.pack (B:=[]) λbs=>Leg.Does.fold (yq n bs W from' to' x by' hb hW) λe H hp=>by
  cases e with
  |returned v=>
   obtain⟨rfl,rfl⟩:=hp;exact⟨_,λ_ s=>bp (p:=λbs:List Nat=>[ah n (fb bs) 135,fL 184 5 bs (oW W from' to' by')]) (H:=[]) bs s,rfl,rfl⟩
  |panicked c=>exact hp.elim
  |outgrown=>exact hp.elim
def jo(f t:Int)(bs:List UInt8):List UInt8:=p8 ([b8 f,b8 t]++bs)
theorem Fc(from' to':Int)(x:Value)(by':List UInt8)(hb:by'.length≤100000):
 DT 218 #[(.int .i64 (from')),(.int .i64 (to')),x] (IsW x by') [] (dm (λv H=>∃u,v=u∧H=[ce u (jo from' to' by') 5])):=by
 refine BD 23 Tryz.func218 rfl rfl rfl λw0 F hF=>sr λ_ J1=>PS ?_
 refine nx J1 (sr λ_ J2=>PS ?_);refine tp (df rfl fE rfl hF.len) ?_;refine AD ?_;refine TL.makeB (0) (2+by'.length) (aa rfl) rfl rfl rfl fE yc rfl rfl rfl (by omega) (by omega) (by omega) (λb11=>cm (H':=[ce (.slice (some ⟨b11,0,none⟩) 0 (2+by'.length)) ([]) 5]) (λ_ s=>ny 0 rfl rfl (by omega) (by simp only[maxLen];omega) (by simp[dH]) rfl s) (PS ?_));refine nx J2 (sr λ_ J3=>P2 ?_);refine tp (cI (r:=(((b8 from').toNat:Nat):Int)) rfl Y3 Y5 rfl (vQ _)) ?_;refine PS ?_;refine tp (cI (r:=(((b8 to').toNat:Nat):Int)) rfl Y3 Y5 rfl (vQ _)) ?_;refine aQ (cells:=#[(.int .u8 ((((b8 from').toNat:Nat):Int))),(.int .u8 ((((b8 to').toNat:Nat):Int)))]) (aa rfl) rfl rfl rfl fE yc rfl rfl rfl (by as_aux_lemma=>kernel_rfl) (λb17=>cj (k:=1) (news:=dH ([(b8 from'),(b8 to')])) (nn':=([(b8 from'),(b8 to')]:List UInt8).length) (xs':=dH ([(b8 from'),(b8 to')])) (aa rfl) rfl rfl rfl fE yc rfl rfl rfl rfl rfl rfl (λ_ _=>gW rfl (RO 0) rfl) (eV [(b8 from'),(b8 to')]) (by simp only[maxLen,aw,am];omega) (by simp only[aw,am];omega) (by simp<;>omega) (bK _) (λv18 ov18=>PS ?_));refine nx J3 (sr λ_ J4=>P2 ?_)
 refine cj (k:=1) (news:=dH (by')) (nn':=([(b8 from'),(b8 to')]++by':List UInt8).length) (xs':=dH ([(b8 from'),(b8 to')]++by')) (aa rfl) rfl rfl rfl fE yc rfl rfl rfl rfl rfl rfl (λ_ _=>hF.src (λ_ h=>eb h)) (eV _) (by simp only[maxLen,ae,am,aw];omega) (by simp only[ae,am,aw];omega) (by simp<;>omega) (ii _ _).symm (λv21 ov21=>CQ Mj (uG v21 ([(b8 from'),(b8 to')]++by') (by simp only[ae,am,aw];omega)) ID (λg d s=>Gv (vL 1 rfl rfl g d s)) λvR HR hR=>?_);have hR:=hR;subst hR;refine PS ?_;exact nx J4 (ai (WK [0] (av rfl rfl ⟨_,rfl,rfl⟩)))
theorem rS(f t:Int)(bs:List UInt8):(jo f t bs).length=bs.length+6:=by
 unfold jo;rw[kS];simp only[ae,am,aw];omega
theorem yv(n:Nat)(W:List (List (List UInt8)))(from' to':Int)(x:Value)(by':List UInt8)(hb:by'.length≤3000)(hW:W.length=25):
 DT 216 #[(.pointer (some ⟨n,0,none⟩)),(.int .i64 (from')),(.int .i64 (to')),x] (IsW x by') [eJ 135 184 5 n (W)] (RI (.bool (sU W from' to')) [eJ 135 184 5 n (oW W from' to' (jo from' to' by'))]):=by
 refine BD 24 Tryz.func216 rfl rfl rfl λw0 F hF=>?_
 have hfl:(jo from' to' by').length≤1000000:=by rw[rS];omega
 refine sr λ_ J1=>PS ?_
 refine nx J1 (ab λ_ J2=>sr λ_ J3=>PS ?_);refine tp (iW rfl KE rfl rfl) ?_;refine P2 ?_;refine tq (df rfl fE rfl hF.len) ?_;refine PS ?_;refine ao ?_ ?_<;>intro h14
 · exact absurd h14 (by omega)
 refine PS ?_;refine nx J3 (CN (qx J2 (sr λ_ J4=>?_)))
 iterate 6 refine PS ?_
 refine CQ Ol (Fc from' to' x by' (by omega)) ID (λ_ d _=>Po hF d) λvR HR hR=>?_
 obtain⟨_,rfl,rfl⟩:=hR;revert vR;intro uf;refine CF Oq (AP n W from' to' uf (jo from' to' by') hfl hW) (SM [1]) (λg d s=>Gv (vL 0 rfl rfl g d s)) ?_;refine PS ?_;exact nx J4 (ai (WK [0] (av rfl rfl ⟨rfl,rfl⟩)))
theorem yw(from' to':Int)(x:Value)(by':List UInt8)(h0:0<by'.length)(hb:by'.length≤100000):
 DT 118 #[(.int .i64 (from')),(.int .i64 (to')),x] (IsW x (jo from' to' by')) [] (dm (λv H=>∃u,v= .tuple #[u, .bool true]∧H=[gI u by' 5])):=by
 refine BD 40 Tryz.func118 rfl rfl rfl λw0 F hF=>?_
 have hfl:(jo from' to' by').length≤1000000000:=by rw[rS];omega
 refine sr λ_ J1=>P2 ?_
 refine nx J1 (sr λ_ J2=>PS ?_);refine CQ Mr (y5 x (jo from' to' by') hfl) ID (λ_ d _=>Po hF d) λvR HR hR=>?_
 rcases hR with⟨ht',_,_⟩| ⟨t,u,ht',rfl,rfl⟩
 · exact absurd ht' (by unfold jo;rw[ry];simp)
 obtain rfl:t=([b8 from',b8 to']++by'):=by unfold jo at ht';rw[ry]at ht';exact(cY ht').symm
 refine hY 0 rfl rfl (by simp) (λg cap hv hcap=>?_);have hv2:u= .slice (some ⟨g,0,none⟩) (by'.length+2) cap:=hv;refine P4 ?_;refine PS ?_;refine nx J2 (ab λ_ J3=>sr λ_ J4=>PS ?_);refine PS ?_;refine P2 ?_;refine tq (df rfl fE rfl (by rw[hv2];exact⟨_,_,rfl⟩)) ?_;refine PS ?_;refine ao ?_ ?_<;>intro h20
 · exact absurd h20 (by omega)
 refine P3 ?_;refine tq (bd (r:=0) hv2 rfl fE jK rfl rfl (by omega) (by omega) rfl) ?_;refine tq (ca (v:=(.int .u8 ((((b8 from').toNat:Nat):Int)))) rfl Y5 rfl rfl (fD 0 rfl hv rfl) (rq (l:=([b8 from',b8 to']++by')) (j:=0) (by simp))) ?_;refine PS ?_;refine tq (cI (r:=(((b8 from').toNat:Nat):Int)) rfl Y3 Y5 rfl (vQ _)) ?_;refine PS ?_;refine ao ?_ ?_<;>intro h28
 · exact absurd rfl h28
 refine P3 ?_;refine tq (bd (r:=1) hv2 rfl fE jK rfl rfl (by omega) (by omega) rfl) ?_;refine tq (ca (v:=(.int .u8 ((((b8 to').toNat:Nat):Int)))) rfl Y5 rfl rfl (fD 0 rfl hv rfl) (rq (l:=([b8 from',b8 to']++by')) (j:=1) (by simp))) ?_;refine PS ?_;refine tq (cI (r:=(((b8 to').toNat:Nat):Int)) rfl Y3 Y5 rfl (vQ _)) ?_;refine PS ?_;refine ao ?_ ?_<;>intro h36
 · exact absurd rfl h36
 refine PS ?_;refine nx J4 (CN (qx J3 (sr λ_ J5=>PS ?_)));refine tp (Gu (PV.sliceL (a:=some ⟨g,0,none⟩) (len:=by'.length+2) (cap:=cap) (lo:=2) rfl fE jK (by rw[←hv2];rfl) rfl rfl (by omega)) (congrArg (λq=>jY q 2 (by'.length+2)) hv2.symm)) ?_;refine P2 ?_;exact nx J5 (ai (aE (H':=[gI (jY u 2 (by'.length+2)) by' 5]) (db _) (λ_ s=>wB 0 rfl rfl hv (by omega) (by simp) (by simp;omega) (by simp) s) (gU rfl rfl rfl ⟨_,rfl,rfl⟩)))
theorem xl(n:Nat)(bs:List Nat)(W:List (List (List UInt8)))(from' to':Int)(by':List UInt8)(ls:List (List UInt8))(hv:dL from' to'=true)(hW:W.length=25)(hk:W.getD (bC from' to') []=jo from' to' by'::ls)(h0:0<by'.length)(hb:by'.length≤100000):
 DT 80 #[(.pointer (some ⟨n,0,none⟩)),(.int .i64 (from')),(.int .i64 (to'))] T0 [ah n (fb bs) 135,fL 184 5 bs (W)] (dm (λv H=>∃u,v= .tuple #[u, .bool true]∧H=[ah n (fb bs) 135,fL 184 5 bs (W.set (bC from' to') ls),gI u by' 5])):=by
 refine BD 32 Tryz.func80 rfl rfl rfl λw0 F hF=>sr λ_ J1=>P2 ?_
 refine nx J1 (ab λ_ J2=>sr λ_ J3=>PS ?_);refine tp (iW rfl KE rfl rfl) ?_;refine nx J3 (CN (qx J2 (sr λ_ J4=>P3 ?_)));refine CR EI (mN n bs from' to') ID λvR HR hR=>?_
 obtain⟨hw,rfl⟩:=hR;obtain⟨_,rfl⟩:dL from' to'=true∧vR= .pointer (some ⟨(bs.getD (bC from' to') 0),0,none⟩):=hw.resolve_right (λq=>by rw[hv]at q;cases q.1)
 refine PS ?_;refine nx J4 (ab λ_ J5=>sr λ_ J6=>PS ?_);refine tp (iW rfl Bn rfl rfl) ?_;refine nx J6 (CN (qx J5 (sr λ_ J7=>PS ?_)));refine cm (H':=[ib 184 5 (bs.getD (bC from' to') 0) (W.getD (bC from' to') []),gn 184 5 bs W (bC from' to'),ah n (fb bs) 135]) (λ_ s=>nT hv (aC [1] rfl s)) (CR Mx (tl (bs.getD (bC from' to') 0) (W.getD (bC from' to') [])) ID λvR HR hR=>?_);rcases hR with⟨he,_,_⟩| ⟨u,f,ls',he,rfl,rfl⟩
 · rw[he]at hk;cases hk
 rw[hk]at he;obtain⟨rfl,rfl⟩:=List.cons.inj he;refine P4 ?_;refine PS ?_;refine nx J7 (ab λ_ J8=>sr λ_ J9=>PS ?_);refine PS ?_;refine nx J9 (CN (qx J8 (sr λ_ J10=>P3 ?_)));refine CQ OV (yw from' to' u by' h0 hb) ID (λg d s=>Gv (AW 1 rfl rfl g d s)) λvR HR hR=>?_
 obtain⟨uv,rfl,rfl⟩:=hR;refine P4 ?_;exact nx J10 (ai (aE (H':=[ah n (fb bs) 135,fL 184 5 bs (W.set (bC from' to') ls),gI uv by' 5]) (db _) (λ_ s=>aC [1,0] rfl (tC hv hW (ak [1,2,2,0] rfl s))) (gU rfl rfl rfl ⟨_,rfl,rfl⟩)))
theorem q8(n:Nat)(W:List (List (List UInt8)))(from' to':Int)(by':List UInt8)(ls:List (List UInt8))(hv:dL from' to'=true)(hW:W.length=25)(hk:W.getD (bC from' to') []=jo from' to' by'::ls)(h0:0<by'.length)(hb:by'.length≤100000):DT 80 #[.pointer (some ⟨n,0,none⟩), .int .i64 from', .int .i64 to'] T0 [eJ 135 184 5 n W] (dm (λv H=>∃u,v= .tuple #[u, .bool true]∧H=[eJ 135 184 5 n (W.set (bC from' to') ls),gI u by' 5])):=
 Leg.Does.pack (B:=[]) λbs=>Leg.Does.fold (xl n bs W from' to' by' ls hv hW hk h0 hb) λe H hp=>by
  cases e with
  |returned v=>
   obtain⟨u,rfl,rfl⟩:=hp;exact⟨[eJ 135 184 5 n (W.set (bC from' to') ls),gI u by' 5],λ_ s=>bp (p:=λbs:List Nat=>[ah n (fb bs) 135,fL 184 5 bs (W.set (bC from' to') ls)]) (H:=[gI u by' 5]) bs s,u,rfl,rfl⟩
  |panicked c=>exact hp.elim
  |outgrown=>exact hp.elim
end Go.Proofs.YtfocodjhmkokpaaGreatDoor
end

section
namespace Leg
open Go Codec Api
section
variable {P:Program} {n:Nat} {D:List Deferred} {L:List (Nat×Value)} {S:World→Prop} {o:Oper}
end
def lN(bs:List Nat):List Value:=(List.range 25).map λq=>if q%6=0∨bs.length≤q then .pointer none else .pointer (some ⟨bs.getD q 0,0,none⟩)
theorem zg(bs:List Nat):(lN bs).length=25:=by simp[lN]
theorem Hh{bs:List Nat}{b:Nat}(h:bs.length<25)(hd: ¬bs.length%6=0):(lN bs).set bs.length (.pointer (some ⟨b,0,none⟩))=lN (bs++[b]):=by
 refine List.ext_getElem? λj=>?_
 by_cases hj:j=bs.length
 · subst hj
   rw[List.getElem?_set_self (by rw[zg];exact h)];simp[lN,h,hd,List.getD_eq_getElem?_getD]
 · rw[List.getElem?_set_ne (λe=>hj e.symm)]
   simp only[lN,List.getElem?_map];cases hr:(List.range 25)[j]?with
   |none=>rfl
   |some q=>
    have hq:q=j:=by
     by_cases h25:j<25
     · simp[h25]at hr;exact hr.symm
     · simp[h25]at hr
    subst hq;simp only[Option.map_some,ae,am,aw];congr 1
    by_cases hlt:q<bs.length
    · simp[show ¬bs.length≤q by omega,show ¬bs.length+1≤q by omega,List.getElem?_append_left hlt]
    · simp[show bs.length≤q by omega,show bs.length+1≤q by omega]
theorem Ey{bs:List Nat}{b:Nat}(hd:bs.length%6=0):lN (bs++[b])=lN bs:=by
 unfold lN;refine dW λq hq=>?_
 rw[ae,gq]
 by_cases hq6:q%6=0
 · simp[hq6]
 · by_cases hlt:q<bs.length
   · simp[hq6,show ¬bs.length≤q by omega,show ¬bs.length+1≤q by omega,List.getElem?_append_left hlt]
   · have: ¬q=bs.length:=λe=>hq6 (by rw[e];exact hd)
     simp[show bs.length≤q by omega,show bs.length+1≤q by omega]
theorem Hi{bs:List Nat}(h:bs.length=25):lN bs=fb bs:=by
 unfold lN fb;refine dW λq hq=>?_
 rw[dZ]at hq;simp[show ¬bs.length≤q by omega]
def pc(T U:Nat)(bs:List Nat)(q:Nat):HP:=if q%6=0 then(λ_=>True)else ib T U (bs.getD q 0) []
def kp(T U:Nat)(bs:List Nat):HP:=bD ((List.range bs.length).map (pc T U bs))
theorem FC(T U:Nat){H:List HP}{h:Hl}(s:bD H h):bD (kp T U []::H) h:=⟨em,h,DR h,(rc h).symm,trivial,s⟩
theorem FE(T U:Nat)(bs:List Nat)(b:Nat):(List.range bs.length).map (pc T U (bs++[b]))=(List.range bs.length).map (pc T U bs):=
 dW λq hq=>by
  rw[dZ]at hq;unfold pc;rw[show(bs++[b]).getD q 0=bs.getD q 0 by simp[List.getElem?_append_left hq]]
theorem va(T U:Nat)(bs:List Nat)(b:Nat){H:List HP}{h:Hl}(s:bD (pc T U (bs++[b]) bs.length::kp T U bs::H) h):bD (kp T U (bs++[b])::H) h:=by
 have e:(List.range (bs++[b]).length).map (pc T U (bs++[b]))=(List.range bs.length).map (pc T U bs)++[pc T U (bs++[b]) bs.length]:=by
  rw[ae,gq,cZ,cz,FE];rfl
 obtain⟨h1,h2,d,rfl,a,b'⟩:=s;have s2:bD ((pc T U (bs++[b]) bs.length::(List.range bs.length).map (pc T U bs))++H) (jn h1 h2):=⟨h1,h2,d,rfl,a,(bZ _ _).2 b'⟩;have p:((pc T U (bs++[b]) bs.length::(List.range bs.length).map (pc T U bs))++H).Perm (((List.range bs.length).map (pc T U bs)++[pc T U (bs++[b]) bs.length])++H):=(List.perm_append_comm (l₁:=[pc T U (bs++[b]) bs.length])).append_right H;have s3:=ei p s2;rw[←e]at s3;exact(bZ _ _).1 s3
theorem Dz(T U:Nat)(bs:List Nat)(hd:bs.length%6=0){H:List HP}{h:Hl}(s:bD (kp T U bs::H) h):bD (kp T U (bs++[0])::H) h:=by
 refine va T U bs 0 ⟨em,h,DR h,(rc h).symm,?_,s⟩;unfold pc;rw[if_pos hd];trivial
theorem FF{T U:Nat}{bs:List Nat}(h:bs.length=25):kp T U bs=fL T U bs (List.replicate 25 []):=by
 unfold kp fL pz;rw[h];refine congrArg bD ?_;refine dW λq hq=>?_
 rw[dZ]at hq;unfold pc rh;rw[show(List.replicate 25 ([]:List (List UInt8))).getD q []=[]by rw[List.getD_eq_getElem?_getD,List.getElem?_replicate,if_pos hq];rfl]
end Leg
end
