/-
  Joined texts:what a statement's proof reaches.
-/
import Derived.Lib.ItoaLen
import Derived.Conc.LoneCalls
import Derived.Conc.LoneSelectN
import Derived.Test.YtfocodjhmkokpaaGreatDoorPTR4
set_option maxHeartbeats 8000000
set_option maxRecDepth 100000
set_option linter.unusedSimpArgs false
set_option linter.unusedVariables false
section
namespace Leg
open Go
def Jh(g F:Hl):Hl:=λb=>if(F b).isSome then none else g b
theorem KP(g F:Hl):Dj (Jh g F) F:=λb=>by
 unfold Jh;cases hF:F b with
 |some o=>exact .inl rfl
 |none=>exact .inr rfl
theorem KO{g F:Hl}(h:Le F g):g=jn (Jh g F) F:=by
 funext b
 unfold jn Jh;cases hF:F b with
 |some o=>rw[h b o hF];rfl
 |none=>
  show g b=match g b with|some o=>some o|none=>none
  cases g b<;>rfl
theorem Does.grown{P:Program}{f:FuncId}{args:Array Value}{R:Hl→Prop}{v:Value}
 (h: ∀w F,R F→(∀b o,F b=some o→w.heap[b]?=some o)→Calls P f args w λe w'=>e= .returned v∧∃k os,w'=Sort.grow (w.drewN k) os):
 Does P f args R [] (dh λr H=>r=v∧H=[]):=λw F r m=>by
 refine(h w F r λb o e=>m.frame e).mono ?_
 rintro e w' ⟨rfl,k,os,rfl⟩
 have h0:(w.drewN k).heap=w.heap:=by simp[World.drewN]
 have h1:(Sort.grow (w.drewN k) os).heap=w.heap++os:=by show(w.drewN k).heap++os=_;rw[h0]
 have hh:Le F (hp (Sort.grow (w.drewN k) os)):=λb o e=>by
  have h2:=m.frame e;obtain⟨h3,_⟩:=Array.getElem?_eq_some_iff.1 h2;show(Sort.grow (w.drewN k) os).heap[b]?=some o;rw[h1,Array.getElem?_append_left h3];exact h2
 exact⟨⟨rfl,rfl,rfl,by rw[h1,Array.size_append];omega⟩,[],⟨Jh (hp (Sort.grow (w.drewN k) os)) F,KP _ _,KO hh,trivial⟩,rfl,rfl⟩
end Leg
namespace Go.Proofs.YtfocodjhmkokpaaGreatDoor
open Go Leg
def TabR (F : Hl) : Prop := ∀ w : World, (∀ b o, F b = some o → w.heap[b]? = some o) → Lib.TabIs Tryz.prog w "internal/strconv.uint64pow10" .u64 Lib.pow10Tab
theorem TabR.more{F g:Hl}(h:TabR F)(d:Dj g F):TabR (jn g F):=λw q=>h w λb o e=>q b o (Le.right d b o e)
abbrev gO:= @TabR.more
theorem TabR.of {w : World} (h : Lib.TabIs Tryz.prog w "internal/strconv.uint64pow10" .u64 Lib.pow10Tab) : TabR (hp w) := fun w' q => by
 unfold Lib.TabIs World.var? at h ⊢;cases hg : Tryz.prog.globalNamed "internal/strconv.uint64pow10" with
 |none=>rw[hg]at h;cases h
 |some g=>
  rw[hg]at h;simp only[Option.bind_some]at h ⊢;cases ho:w.heap[g]?with
  |none=>rw[ho]at h;cases h
  |some o=>rw[q g o ho];rw[ho]at h;exact h
def yQ(n:Int):Prop:= -9223372036854775808≤n∧n≤9223372036854775807
theorem xm(n:Int)(h:yQ n):DT 63 #[.int .i64 n] TabR [] (RI (mp (Lib.itoa n)) []):=
 Does.grown λw F r q=>Any.strconv_Itoa Tryz.laysItoa n h.1 h.2 w (r w q)
theorem vI{n:Int}(h:yQ n):(Lib.itoa n).length≤21:=Lib.itoa_length_le n h.1 h.2
def mV(l:List Int):List UInt8:=l.flatMap λn=>32::Lib.itoa n
def oe(ws:List UInt8)(l:List Int):List UInt8:=ws++mV l++[10]
def All64(l:List Int):Prop:=∀n∈l,yQ n
theorem tV: ∀l,All64 l→(mV l).length≤22*l.length
 | [],_=>aK _
 |n::l,h=>by
  have h1:=tV l λm hm=>h m (gJ _ hm)
  have h2:=Lib.itoa_length_le n (h n (ez ..)).1 (h n (ez ..)).2;show(32::Lib.itoa n++mV l).length≤_;simp only[af,an]at h1 h2 ⊢;omega
theorem All64.take{l:List Int}(h:All64 l)(k:Nat):All64 (l.take k):=λn hn=>h n (en hn)
theorem El(l:List Int){k:Nat}(h:k<l.length):mV (l.take (k+1))=mV (l.take k)++([32]++Lib.itoa (l.getD k 0)):=by
 unfold mV;rw[bH h,re];simp[List.getD_eq_getElem?_getD,h]
theorem qK{ws:List UInt8}{l:List Int}(h:All64 l):(oe ws l).length≤ws.length+22*l.length+1:=by
 have:=tV l h;unfold oe;simp only[af,an,aw];omega
theorem Mc{l:List Int}{k:Nat}(h:k<l.length):l.getD k 0∈l:=by
 rw[List.getD_eq_getElem?_getD,List.getElem?_eq_getElem h];exact cR h
open Codec Api Dsk Wal
theorem ke(t c:Nat)(A v x:Value)(bs ws:List UInt8)(l:List Int)(hA:A= .pointer none∨A= .pointer (some ⟨t,1,none⟩))(hv:v.oneCell'=true)(hd:All64 l)(hb:bs.length+ws.length+22*l.length+1≤1000000):
 DT 39 #[(.pointer (some ⟨t,0,none⟩)),(mp (ws)),x] (λF=>IsI .i64 x l F∧TabR F) [ah t [(.pointer (some ⟨c,0,none⟩)),A,v] 102,ce v (bs) 5] (dh (λ_ H=>∃v',v'.oneCell'=true∧H=[ah t [(.pointer (some ⟨c,0,none⟩)),(.pointer (some ⟨t,1,none⟩)),v'] 102,ce v' (bs++oe ws l) 5])):=by
 refine BD 31 Tryz.func39 rfl rfl rfl λw0 F hF=>?_
 have hI:=hF.1;have hT:=hF.2;refine sr λ_ J1=>P2 ?_
 refine FA 1 Dq wm ?_;refine PS ?_;refine CR MK (rj t c A v (bs) (ws) hA hv (by first|omega| (simp only[af,an,aw];omega))) ID λvR HR hR=>?_
 obtain⟨w1,hw1,rfl⟩:=hR;refine nx J1 (ab λ_ J2=>sr λ_ J3=>PS ?_);refine tp (dq rfl iL rfl hI.len) ?_;refine PS ?_;refine nx J3 (au ?_)
 refine bu (α:=(Nat)×(Value)) (λ⟨k,v2⟩=>k≤l.length∧v2.oneCell'=true) (λ⟨k,v2⟩=>[(0,(.pointer (some ⟨t,0,none⟩))),(13,x),(14,(.int .i64 (((l.length:Nat):Int)))),(15,(.int .i64 (((k:Nat):Int))))]) (λ⟨k,v2⟩=>[ah t [(.pointer (some ⟨c,0,none⟩)),(.pointer (some ⟨t,1,none⟩)),v2] 102,ce v2 (bs++ws++mV (l.take k)) 5]) (λ⟨k,v2⟩=>l.length-k) (0,w1)
  ⟨aN _,hw1⟩ SB
  (λ_ s=>by show bD [ah t [(.pointer (some ⟨c,0,none⟩)),(.pointer (some ⟨t,1,none⟩)),w1] 102,ce w1 (bs++ws++mV (l.take 0)) 5] _;rw[show bs++ws++mV (l.take 0)=bs++ws from aP _];exact s) (λ⟨k,v2⟩ hinv=>?_)
 obtain⟨hk,hv2⟩:=hinv;have hnl:=tV (l.take k) (hd.take k);rw[bk]at hnl;refine sr λ_ J4=>PS ?_
 refine ao ?_ ?_<;>intro h16;have hkl:k<l.length:=by omega
 obtain⟨b_a,off_a,cap_a,cs_a,T_a,z_a,hv_a,hb_a,hcs_a,hcp_a⟩:=IsI.at hI (j:=k) (by omega);refine nx J4 (ab λ_ J5=>CY (qx J5 (ab λ_ J6=>au (sr λ_ J7=>tp (be (r:=off_a+k) hv_a rfl iL aR rfl rfl (by omega) (by omega) (by omega)) ?_))));refine tp (ca (v:=(.int .i64 ((l.getD k 0)))) rfl Y3 rfl rfl (jl hb_a (λ_ h=>ec h)) hcs_a) ?_;refine PS ?_;refine nx J7 (D0 df ?_);refine PD 0 ?_;refine PD 1 ?_;refine FD 2 1 Dq wm ?_;refine PD 3 ?_;refine AL 4 ?_;refine CF ND (xm (l.getD k 0) (hd _ (Mc hkl))) ID (λ_ d _=>gO hT d) ?_;have hit:=vI (hd _ (Mc hkl));refine EN (ta 5 rfl (Lo (a:=[32]) (b:=Lib.itoa (l.getD k 0)) rfl rfl rfl (by simp only[an,aw];omega)) ?_);refine AL 6 ?_;refine CR MK (rj t c (.pointer (some ⟨t,1,none⟩)) v2 (bs++ws++mV (l.take k)) ([32]++Lib.itoa (l.getD k 0)) (Or.inr rfl) hv2 (by first|omega| (simp only[af,an,aw];omega))) ID λvR HR hR=>?_
 obtain⟨w2,hw2,rfl⟩:=hR;refine EN (DN (ag (ac J6 (ad (AD ?_)))));refine PS ?_;refine aq ?_
 exact aJ ((k+1,w2):(Nat)×(Value)) ⟨by omega,hw2⟩ (by show l.length- (k+1)<l.length-k;omega)
  SB
  (λ_ s=>by show bD [ah t [(.pointer (some ⟨c,0,none⟩)),(.pointer (some ⟨t,1,none⟩)),w2] 102,ce w2 (bs++ws++mV (l.take (k+1))) 5] _;rw[El l (show k<l.length by omega),←aS];exact s)
 refine nx J4 (ab λ_ J8=>CN (aY (aC (aC (bo (ac J2 (ad (P2 ?_))))))));refine FA 1 Dq wm ?_;refine CR MK (rj t c (.pointer (some ⟨t,1,none⟩)) v2 (bs++ws++mV (l.take k)) ([10]) (Or.inr rfl) hv2 (by first|omega| (simp only[af,an,aw];omega))) ID λvR HR hR=>?_
 obtain⟨w2,hw2,rfl⟩:=hR;exact aq (aF (H':=[ah t [(.pointer (some ⟨c,0,none⟩)),(.pointer (some ⟨t,1,none⟩)),w2] 102,ce w2 (bs++oe ws l) 5]) (dd _) (λ_ s=>by rw[show bs++oe ws l=bs++ws++mV (l.take k)++[10]by rw[az (by omega)];simp[oe]];exact s) (bp rfl ⟨_,hw2,rfl⟩))
end Go.Proofs.YtfocodjhmkokpaaGreatDoor
end

section
namespace Api
open Go Leg Codec Dsk Wal
structure MS(δ:Type) where
 id:Int
 view:ViewT
 own:RowT
 mirror:MirT
 acc:AccT
 round:Int
 vote:Option VoteT
 book:BookT
 busy:Bool
 kept:Int
 waits:Int
 ops:Int
 replies:List ReplyT
 told:Vector Int 5
 last:Vector RowT 5
 e:δ
 o:List SaidT
structure Adr where
 lg:Nat
 vo:Value
 rs:Value
structure Dk(δ:Type) where
 pt:δ→List UInt8→δ×Int
 dn:δ→Bool
 ok:δ→Prop
 sure: ∀(e:δ) (bs:List UInt8),ok e→bs.length≤3000→ok (pt e bs).1
variable {δ:Type}
abbrev MS.rep(s:MS δ)(a:Adr):RepT:=⟨s.id, .pointer (some ⟨a.lg,0,none⟩),s.view,s.own,s.mirror,s.acc,s.round,a.vo,s.book,s.busy,s.kept,s.waits,s.ops,a.rs,s.told,s.last⟩
def MS.setView(s:MS δ)(v:ViewT):MS δ:= {s with view:=v}
def MS.setOwn(s:MS δ)(v:RowT):MS δ:= {s with own:=v}
def MS.setAcc(s:MS δ)(v:AccT):MS δ:= {s with acc:=v}
def MS.setRound(s:MS δ)(v:Int):MS δ:= {s with round:=v}
def MS.setBusy(s:MS δ)(v:Bool):MS δ:= {s with busy:=v}
def MS.setKept(s:MS δ)(v:Int):MS δ:= {s with kept:=v}
def MS.setWaits(s:MS δ)(v:Int):MS δ:= {s with waits:=v}
def MS.setOps(s:MS δ)(v:Int):MS δ:= {s with ops:=v}
def MS.setTold(s:MS δ)(v:Vector Int 5):MS δ:= {s with told:=v}
def MS.setLast(s:MS δ)(v:Vector RowT 5):MS δ:= {s with last:=v}
def Adr.nil:Adr:=⟨0, .pointer none, .slice none 0 0⟩
def c7(w:Int):Int:=IntKind.i64.wrap (1*2^min w.toNat IntKind.i64.bits)
def Ct(a b:BallotT):Bool:=if a.round≠b.round then decide (a.round<b.round)else decide (a.who<b.who)
def zI(a:AccT)(ep:Int)(b:BallotT):Bool:=decide (ep≠a.epoch)||(decide (b.round<1)||Ct b a.vow)
def bW(a:AccT)(ep:Int)(b:BallotT):AccT×Bool:=if zI a ep b then(a,false)else({a with vow:=b},true)
def gy(a:AccT)(ep:Int)(b:BallotT)(c:ChangeT):AccT×Bool:=if zI a ep b then(a,false)else({a with vow:=b,had:=b,change:=c},true)
def ko(bits:Int)(k:Nat):List Int:=((List.range k).filter λi:Nat=>HO bits ((i:Nat):Int)).map λi:Nat=>((i:Nat):Int)
def pq(bits:Int):List Int:=ko bits 5
def Mb(part all:Int):Bool:=decide (2* (((pq (qR .i64 part all)).length:Nat):Int)>(((pq all).length:Nat):Int))
def gE(v:ViewT)(bits:Int):Bool:=Mb bits v.members
def ju(v:ViewT)(b:BallotT)(c:ChangeT):VoteT:= {VoteT.zero with view:=v,ballot:=b,change:=c}
def nD(v:VoteT)(who:Int)(b:BallotT):Bool:=decide (b.flat=v.ballot.flat)&&iO v.view who
def wc(v:VoteT)(who:Int)(had:BallotT)(c:ChangeT):VoteT:=
 if decide (0<had.round)&&Ct v.best had then {v with vowed:=iF .i64 v.vowed (c7 who),best:=had,change:=c}else {v with vowed:=iF .i64 v.vowed (c7 who)}
def eO(v:VoteT)(who:Int)(b had:BallotT)(c:ChangeT):VoteT×Bool:=
 if v.putting|| !nD v who b then(v,false)else({wc v who had c with putting:=gE v.view (iF .i64 v.vowed (c7 who))},gE v.view (iF .i64 v.vowed (c7 who)))
def gv(v:VoteT)(who:Int)(b:BallotT):VoteT×Bool:=
 if !v.putting|| !nD v who b then(v,false)else({v with took:=iF .i64 v.took (c7 who)},gE v.view (iF .i64 v.took (c7 who)))
def oK(x:RowT)(who v:Int)(l:Vector CellT 4):RowT:=if h:cH who=true then {x with heir:=x.heir.set who.toNat v (fl h),left:=x.left.set who.toNat l (fl h)}else x
def xi(x:RowT)(who:Int):Vector CellT 4:=if h:cH who=true then x.left[who.toNat]'(fl h)else RowT.zero.cells
def ny(who:Int)(dead:RowT)(x:RowT)(i:Nat):RowT:=if((i:Nat):Int)≠who∧0<fR dead ((i:Nat):Int)∧fR x ((i:Nat):Int)=0 then oK x ((i:Nat):Int) (fR dead ((i:Nat):Int)) (xi dead ((i:Nat):Int))else x
def og(x:RowT)(who:Int)(dead:RowT)(k:Nat):RowT:=(List.range k).foldl (ny who dead) (oK x who (fO (dead.version+1)) dead.cells)
def dT(x:RowT)(who:Int)(dead:RowT):RowT×Int:=
 if !cH who then(.zero,5)else if 0<fR x who then(.zero,8)else({og x who dead 5 with version:=fO ((og x who dead 5).version+1)},0)
def rl(s:MS δ)(who:Int):Int:=if h:cH who=true then s.told[who.toNat]'(fl h)else 0
def nG(s:MS δ)(who:Int):RowT:=if h:cH who=true then s.last[who.toNat]'(fl h)else .zero
def BU{α:Type}(v:Vector α 5)(w:Int)(x:α):Vector α 5:=if h:cH w=true then v.set w.toNat x (fl h)else v
def lM(s:MS δ)(who:Int)(y:RowT):MS δ:= {s with last:=if rl s who=0∨(nG s who).version<y.version then BU s.last who y else s.last}
def we(s:MS δ)(from' who:Int)(y:RowT):MS δ:= {lM s who y with told:=BU s.told who (iF .i64 (rl s who) (c7 from'))}
def wg(s:MS δ)(who w:Int):Bool:=decide ((rl s who).fdiv (2^min w.toNat IntKind.i64.bits)%2=1)
def CS(s:MS δ)(i:Nat):Bool:=decide (jE s.view ((i:Nat):Int)=some s.id)&&decide (fR s.own ((i:Nat):Int)≤0)
def gZ(s:MS δ)(k:Nat):List Int:=((List.range k).filter (CS s)).map λi:Nat=>((i:Nat):Int)
def bG(s:MS δ):List Int:=gZ s 5
def vE(s:MS δ):Bool:=(bG s).all λi=>(gR i).all λw=>wg s i w
def qg(s:MS δ)(l:List Int):RowT:=l.foldl (λx i=>if 0<fR x i then x else(dT x i (nG s i)).1) s.own
def j5(v:ViewT):MsgT:= {MsgT.zero with kind:=7,view:=v}
def oL(i:Int)(v:ViewT):MsgT:= {MsgT.zero with kind:=8,whose:=i,view:=v}
def fA(ep:Int)(b:BallotT):MsgT:= {MsgT.zero with kind:=3,epoch:=ep,ballot:=b}
def kP(ep:Int)(b had:BallotT)(c:ChangeT):MsgT:= {MsgT.zero with kind:=4,epoch:=ep,ballot:=b,had:=had,change:=c}
def jb(ep:Int)(b:BallotT)(c:ChangeT):MsgT:= {MsgT.zero with kind:=5,epoch:=ep,ballot:=b,change:=c}
def jN(ep:Int)(b:BallotT):MsgT:= {MsgT.zero with kind:=6,epoch:=ep,ballot:=b}
def gV(ep:Int)(b:BallotT):RecT:= {RecT.zero with kind:=3,epoch:=ep,ballot:=b}
def mo(ep:Int)(b:BallotT)(c:ChangeT):RecT:= {RecT.zero with kind:=4,epoch:=ep,ballot:=b,change:=c}
def du(s:MS δ)(n:Int):MS δ:= {s with round:=n}
def lw(s:MS δ)(v:VoteT):MS δ:= {s with vote:=some v}
def xV(s:MS δ)(a:AccT):MS δ:= {s with acc:=a}
variable (K:Dk δ)
def iM(s:MS δ)(l:List SaidT):MS δ:= {s with o:=if K.dn s.e then s.o else s.o++l}
def D9(s:MS δ)(to':Int)(m:MsgT):MS δ:=iM K s [⟨to',m⟩]
theorem p2(s:MS δ):iM K s []=s:=by
 unfold iM;rw[aP,ite_self]
theorem IB(s:MS δ)(a b:List SaidT):iM K (iM K s a) b=iM K s (a++b):=by
 unfold iM
 by_cases h:K.dn s.e=true<;>simp[h]
def nt(f:MS δ→MS δ)(s:MS δ)(to':Int)(m:MsgT):MS δ:=if to'=s.id then f s else D9 K s to' m
def eh(s:MS δ)(r:RecT):MS δ:= {s with e:=(K.pt s.e (kh r)).1}
def sN(s:MS δ)(r:RecT):Int:=(K.pt s.e (kh r)).2
def dv(s:MS δ)(op err val:Int):MS δ:= {s with replies:=s.replies++[⟨op,err,val⟩]}
def fo(s:MS δ):MS δ:=iM K s (pR (s.rep .nil))
def n5(id:Int)(m:MsgT)(p:Nat→Bool)(k:Nat):List SaidT:=((List.range k).filter λi:Nat=> !decide (((i:Nat):Int)=id)&&p i).map λi:Nat=>⟨((i:Nat):Int),m⟩
theorem iB(id:Int)(m:MsgT)(p:Nat→Bool)(k:Nat):n5 id m p (k+1)=n5 id m p k++(if((k:Nat):Int)≠id∧p k=true then [⟨((k:Nat):Int),m⟩]else []):=by
 unfold n5;rw[cV,List.filter_append,dB]
 by_cases h:((k:Nat):Int)=id<;>by_cases h2:p k=true<;>simp[h,h2]
def mD(s:MS δ)(y:RowT):MS δ:=iM K s (n5 s.id (sQ s.id y) (λ_=>true) 5)
def nS(s:MS δ)(v:ViewT):MS δ:=iM K s (n5 s.id (j5 v) (λ_=>true) 5)
def uT(s:MS δ)(x:RowT)(op:Int):MS δ:= {s with own:=x,busy:=true,kept:=0,waits:=op}
def eQ(s:MS δ)(x:RowT)(op:Int):MS δ×Int:=if sN K s (kL x)≠0 then(eh K s (kL x),sN K s (kL x))else(fo K (uT (eh K s (kL x)) x op),0)
def m8(s:MS δ):MS δ:=if s.busy||decide ((bG s).length=0)then s else if vE s then(eQ K s (qg s (bG s)) 0).1 else s
def gL(s:MS δ):MS δ:= {s with busy:=false,book:=(fz s.book s.id s.own).1}
def mf(s:MS δ):MS δ:= {s with replies:=if 0<s.waits then s.replies++[⟨s.waits,0,0⟩]else s.replies,waits:=if 0<s.waits then 0 else s.waits}
theorem yT{s:MS δ}(h:0<s.waits):mf s= {dv s s.waits 0 0 with waits:=0}:=by unfold mf;rw[if_pos h,if_pos h];rfl
theorem yU{s:MS δ}(h: ¬0<s.waits):mf s=s:=by unfold mf;rw[if_neg h,if_neg h]
def lO(s:MS δ):MS δ:=m8 K (mD K (mf (gL s)) s.own)
def li(s:MS δ)(from' ver:Int):Bool:=s.busy&&(decide (ver=s.own.version)&&decide (from'∈gR s.id))
def xu(s:MS δ):Bool:=(gR s.id).all λw=> !Ba s.kept w
def iK(s:MS δ)(from':Int):MS δ:= {s with kept:=iF .i64 s.kept (c7 from')}
def dP(s:MS δ)(from':Int)(m:MsgT):MS δ:=if li s from' m.version then(if xu (iK s from')then lO K (iK s from')else iK s from')else s
def F6(s:MS δ)(w:Int)(y:RowT):MS δ:= {s with book:=(fz s.book w y).1}
def iJ(s:MS δ)(w:Int)(y:RowT):MS δ:= {s with mirror:=(mw s.mirror w y).1}
def iX(s:MS δ)(from':Int)(m:MsgT):MS δ:=
 if m.whose≠from'∨fc s.mirror m.whose=true then s
 else if lJ s.mirror m.whose m.row then(if sN K s (kd m.whose m.row)≠0 then eh K s (kd m.whose m.row)else D9 K (iJ (eh K s (kd m.whose m.row)) m.whose m.row) from' (sY (dp (iJ (eh K s (kd m.whose m.row)) m.whose m.row).mirror m.whose).version))
 else D9 K s from' (sY (dp s.mirror m.whose).version)
def fY(s:MS δ)(from':Int)(m:MsgT):MS δ:=m8 K (if from'∈gR m.whose then we s from' m.whose m.row else s)
def l5(s:MS δ)(w:Int):MS δ:= {s with mirror:=od s.mirror w}
def fy(s:MS δ)(from' w:Int):MS δ:=
 let back:=λs:MS δ=>nt K (λs=>fY K s s.id (gX w (dp s.mirror w))) s from' (gX w (dp s.mirror w))
 if jE s.view w≠some from' then s
 else if fc s.mirror w then back s
 else if sN K s (jr w)≠0 then eh K s (jr w)else back (l5 (eh K s (jr w)) w)
def g8(s:MS δ)(i w:Int):MS δ:=if wg s i w then s else nt K (λs=>fy K s s.id i) s w (oL i s.view)
def qn(s:MS δ)(i:Int):MS δ:=g8 K (g8 K s i ((i+1)%5)) i ((i+2)%5)
def fX(l:List Int)(s:MS δ):MS δ:=l.foldl (qn K) s
def rS(s:MS δ):MS δ:=fX K (bG s) s
def m6(s:MS δ)(v:ViewT):MS δ:= {s with view:=v,acc:= {AccT.zero with epoch:=v.epoch},vote:=none,round:=0}
def qL(s:MS δ)(v:ViewT):Bool:=decide (s.view.epoch<v.epoch)&&decide (sN K s (lm v)=0)
def ii(s:MS δ)(v:ViewT):MS δ:=if v.epoch≤s.view.epoch then s else if sN K s (lm v)≠0 then eh K s (lm v)else rS K (m6 (eh K s (lm v)) v)
def mE(s:MS δ)(from':Int)(m:MsgT):MS δ:=fy K (ii K s m.view) from' m.whose
def lu(s:MS δ)(c:ChangeT):MS δ:=if(dL s.view c).2≠0 then s else if qL K s (dL s.view c).1 then nS K (ii K s (dL s.view c).1) (dL s.view c).1 else ii K s (dL s.view c).1
def eP(f:MS δ→MS δ)(s:MS δ)(from':Int)(m:MsgT):MS δ:=
 if m.epoch<s.view.epoch then(if m.kind=3∨m.kind=5 then D9 K s from' (j5 s.view)else s)
 else if s.view.epoch<m.epoch∨iO s.view s.id=false then s
 else f (du s (max s.round m.ballot.round))
def lx(from':Int)(m:MsgT)(s:MS δ):MS δ:=match s.vote with
 |none=>s
 |some vt=>if(gv vt from' m.ballot).2 then lu K (lw s (gv vt from' m.ballot).1) vt.change else(lw s (gv vt from' m.ballot).1)
def ru(s:MS δ)(from':Int)(m:MsgT):MS δ:=eP K (lx K from' m) s from' m
def nZ(from':Int)(m:MsgT)(s:MS δ):MS δ:=nt K (λs=>ru K s s.id (jN m.epoch m.ballot)) s from' (jN m.epoch m.ballot)
def pe(from':Int)(m:MsgT)(s:MS δ):MS δ:=
 if(dL s.view m.change).2≠0 then s else if(gy s.acc m.epoch m.ballot m.change).2=false then s
 else if(gy s.acc m.epoch m.ballot m.change).1.flat≠s.acc.flat then(if sN K s (mo m.epoch m.ballot m.change)≠0 then eh K s (mo m.epoch m.ballot m.change)else nZ K from' m (xV (eh K s (mo m.epoch m.ballot m.change)) (gy s.acc m.epoch m.ballot m.change).1))
 else nZ K from' m s
def tD(s:MS δ)(from':Int)(m:MsgT):MS δ:=eP K (pe K from' m) s from' m
def jH(s:MS δ)(m:MsgT):MS δ:=iM K s (n5 s.id m (λi=>iO s.view ((i:Nat):Int)) 5)
def jP(f:MS δ→MsgT→MS δ)(s:MS δ)(m:MsgT):MS δ:=if iO s.view s.id then f (jH K s m) m else jH K s m
def kQ(s:MS δ)(vt:VoteT):MS δ:=jP K (λs m=>tD K s s.id m) s (jb s.view.epoch vt.ballot vt.change)
def pP(from':Int)(m:MsgT)(s:MS δ):MS δ:=match s.vote with
 |none=>s
 |some vt=>if(eO vt from' m.ballot m.had m.change).2 then kQ K (lw s (eO vt from' m.ballot m.had m.change).1) (eO vt from' m.ballot m.had m.change).1 else(lw s (eO vt from' m.ballot m.had m.change).1)
def rz(s:MS δ)(from':Int)(m:MsgT):MS δ:=eP K (pP K from' m) s from' m
def oo(from':Int)(m:MsgT)(a:AccT)(s:MS δ):MS δ:=nt K (λs=>rz K s s.id (kP m.epoch m.ballot a.had a.change)) s from' (kP m.epoch m.ballot a.had a.change)
def qu(from':Int)(m:MsgT)(s:MS δ):MS δ:=
 if(bW s.acc m.epoch m.ballot).2=false then s
 else if(bW s.acc m.epoch m.ballot).1.vow.flat≠s.acc.vow.flat then(if sN K s (gV m.epoch m.ballot)≠0 then eh K s (gV m.epoch m.ballot)else oo K from' m (bW s.acc m.epoch m.ballot).1 (xV (eh K s (gV m.epoch m.ballot)) (bW s.acc m.epoch m.ballot).1))
 else oo K from' m (bW s.acc m.epoch m.ballot).1 s
def tE(s:MS δ)(from':Int)(m:MsgT):MS δ:=eP K (qu K from' m) s from' m
def mT(s:MS δ)(vt:VoteT):MS δ:=jP K (λs m=>tE K s s.id m) s (fA s.view.epoch vt.ballot)
def n4(s:MS δ)(vt:VoteT):MS δ:=if vt.putting then kQ K s vt else mT K s vt
def eD(s:MS δ):BallotT:=⟨fO (s.round+1),s.id⟩
def rV(s:MS δ)(c:ChangeT):MS δ:=lw (du (xV (eh K s (gV s.view.epoch (eD s))) (bW s.acc s.view.epoch (eD s)).1) (eD s).round) (ju s.view (eD s) c)
def co(s:MS δ)(c:ChangeT):MS δ×Int:=
 if(bW s.acc s.view.epoch (eD s)).2=false then(s,6)else if sN K s (gV s.view.epoch (eD s))≠0 then(eh K s (gV s.view.epoch (eD s)),sN K s (gV s.view.epoch (eD s)))else(rV K s c,0)
def fE(s:MS δ)(c:ChangeT):Int:=if(dL s.view c).2=0∧s.vote.isSome=true then 8 else(dL s.view c).2
def dV(s:MS δ)(op:Int)(c:ChangeT):MS δ×Int:=
 if fE s c≠0 then(dv s op (fE s c) 0,fE s c)
 else if(co K s c).2≠0 then(dv (co K s c).1 op (co K s c).2 0,(co K s c).2)
 else(n4 K (dv (co K s c).1 op 0 0) (ju s.view (eD s) c),0)
def db(s:MS δ)(o:OpT):RowT×Int×Int:=iI (s.rep .nil) o
def bC(s:MS δ):MS δ:= {s with ops:=fO (s.ops+1)}
def nN(s:MS δ)(o:OpT):MS δ×Int:=
 if(db s o).2.2≠0∨o.kind=3 then(dv s s.ops (db s o).2.2 (db s o).2.1,(db s o).2.2)
 else if(eQ K s (db s o).1 s.ops).2≠0 then(dv (eQ K s (db s o).1 s.ops).1 s.ops (eQ K s (db s o).1 s.ops).2 0,(eQ K s (db s o).1 s.ops).2)
 else((eQ K s (db s o).1 s.ops).1,0)
def bV(s:MS δ)(o:OpT):MS δ×Int:=if iO s.view s.id&&decide (o.kind=4)then dV K (bC s) (bC s).ops o.change else nN K (bC s) o
def gg(s:MS δ)(from':Int)(m:MsgT):MS δ:=
 if m.kind=0 then iX K s from' m else if m.kind=1 then dP K s from' m else if m.kind=2 then F6 s m.whose m.row
 else if m.kind=7 then ii K s m.view else if m.kind=8 then mE K s from' m else if m.kind=9 then fY K s from' m
 else if m.kind=3 then tE K s from' m else if m.kind=4 then rz K s from' m else if m.kind=5 then tD K s from' m else if m.kind=6 then ru K s from' m else s
def bY(s:MS δ):MS δ:=rS K (m8 K (if s.busy=true then fo K s else s))
def cf(s:MS δ):MS δ:=if 1<s.view.epoch then nS K s s.view else s
def gf(s:MS δ):MS δ:=if 0< (cz s.book s.id).version then mD K s (cz s.book s.id)else s
def sC(s:MS δ):MS δ:=match s.vote with
 |none=>s
 |some vt=>if(dL s.view vt.change).2=0 then(if(co K s vt.change).2=0 then n4 K (co K s vt.change).1 (ju s.view (eD s) vt.change)else(co K s vt.change).1)else s
def iu(s:MS δ):MS δ:=if iO (cf K (bY K s)).view (cf K (bY K s)).id then sC K (gf K (cf K (bY K s)))else cf K (bY K s)
def jB(s:MS δ)(m:RecT):MS δ:=
 if m.kind=0 then {s with own:=m.row,busy:=true,kept:=0}
 else if m.kind=1 then iJ s m.whose m.row
 else if m.kind=2 then l5 s m.whose
 else if m.kind=3 then {s with acc:= {s.acc with vow:=m.ballot},round:=max s.round m.ballot.round}
 else if m.kind=4 then {s with acc:= {s.acc with vow:=m.ballot,had:=m.ballot,change:=m.change},round:=max s.round m.ballot.round}
 else if m.kind=5 then m6 s m.view
 else s
def lE:List (List UInt8)→MS δ→Option (MS δ)
 | [],s=>some s
 |b::bs,s=>if(oj b).2≠0 then none else lE bs (jB s (oj b).1)
def Fq(id:Int)(e:δ):MS δ:=⟨id, .zero, .zero, .zero, .zero,0,none, .zero,false,0,0,0,[], #v[0,0,0,0,0], #v[RowT.zero,RowT.zero,RowT.zero,RowT.zero,RowT.zero],e,[]⟩
def Cl(id:Int)(e:δ):MS δ:=m6 (Fq id e) firstV
theorem GP{ls:List (List UInt8)}{k:Nat}{s:MS δ}(h:k<ls.length)(g:(oj ls[k]).2≠0):lE (ls.drop k) s=none:=by
 rw[dy h,lE,if_pos g]
theorem IG{ls:List (List UInt8)}{k:Nat}{s:MS δ}(h:k<ls.length)(g: ¬(oj ls[k]).2≠0):lE (ls.drop k) s=lE (ls.drop (k+1)) (jB s (oj ls[k]).1):=by
 rw[dy h,lE,if_neg g]
end Api
end

section
namespace Api
open Go Leg Codec
theorem yS{n:Int}(h:(Lit.int .i64 n).wf=true): -9223372036854775808≤n∧n<9223372036854775808:=by
 have m1:IntKind.i64.min= -9223372036854775808:=by decide
 have m2:IntKind.i64.max=9223372036854775807:=by decide
 simp only[Lit.wf,m1,m2,ax,decide_eq_true_eq]at h;omega
theorem sn{n:Int}{l:List Int}(h:0≤n∧n<9223372036854775808)(hl:WF l):WF (n::l):=λm hm=>by
 rcases bN.1 hm with rfl|hm
 · exact sj h
 · exact hl m hm
theorem l3{a b:List Int}(ha:WF a)(hb:WF b):WF (a++b):=λm hm=>by
 rcases cG.1 hm with hm|hm
 · exact ha m hm
 · exact hb m hm
theorem H9:WF []:=λ_ h=>by cases h
theorem OkB.wf{b:BallotT}(h:OkB b):WF b.flat:=sn h.1 (sn ⟨h.2.1,by have:=h.2.2;omega⟩ H9)
theorem OkC.wf{c:ChangeT}(h:OkC c):WF c.flat:=sn ⟨h.1.1,by have:=h.1.2;omega⟩ (sn ⟨h.2.1.1,by have:=h.2.1.2;omega⟩ (sn ⟨h.2.2.1,by have:=h.2.2.2;omega⟩ H9))
theorem O5:Nm 0:=⟨by decide,by decide⟩
theorem s9(m:MsgT):(dQ m).length≤3000:=by
 have h1:=ik m.row;have h2:=aW m.ballot.flat;have h3:=aW m.had.flat;have h4:=aW m.change.flat;have h5:=aW m.view.flat;have h6:=aW [m.kind,m.whose];have h7:=aW [m.kind,m.version];have h8:=aW [m.kind,m.epoch];have h9:=aW [m.kind];simp only[BallotT.flat,ChangeT.flat,ViewT.flat,an,aw,aA]at h2 h3 h4 h5 h6 h7 h8 h9;unfold dQ;split
 · simp only[af];omega
 split
 · omega
 split
 · simp only[af,BallotT.flat];omega
 split
 · simp only[af,BallotT.flat,ChangeT.flat];omega
 split
 · simp only[af,BallotT.flat,ChangeT.flat];omega
 split
 · simp only[af,ViewT.flat];omega
 split
 · simp only[af,ViewT.flat];omega
 · simp
theorem B8:gY RowT.zero=true:=by decide+kernel
theorem Ku{m:RecT}{bs r:List UInt8}(h:dw bs=some ((m,true),r)):gY m.row=true:=by
 obtain⟨k,r1,_,h⟩:=bK h;split at h
 · obtain⟨_,_,_,h⟩:=bK h
   obtain⟨e,_⟩:=ie h;injection e with e1 e2;subst e1;exact e2
 split at h
 · obtain⟨_,_,_,h⟩:=bK h
   obtain⟨_,_,_,h⟩:=bK h;obtain⟨e,_⟩:=ie h;injection e with e1 e2;subst e1;exact e2
 have fin: ∀{m':RecT} {g:Bool} {b r:List UInt8},pr (m',g) b=some ((m,true),r)→m'.row= .zero→gY m.row=true:=λh e=>by
  obtain⟨e',_⟩:=ie h;injection e' with e1 e2;subst e1;rw[e];exact B8
 split at h
 · obtain⟨_,_,_,h⟩:=bK h;exact fin h rfl
 split at h
 · obtain⟨_,_,_,h⟩:=bK h;obtain⟨_,_,_,h⟩:=bK h;exact fin h rfl
 split at h
 · obtain⟨_,_,_,h⟩:=bK h;obtain⟨_,_,_,h⟩:=bK h;obtain⟨_,_,_,h⟩:=bK h;exact fin h rfl
 split at h
 · obtain⟨_,_,_,h⟩:=bK h;exact fin h rfl
 · exact fin h rfl
theorem Jz(bs:List UInt8):(∃m,oj bs=(m,0)∧bs=kh m∧gY m.row=true∧WF m.row.flat)∨oj bs=(.zero,1):=by
 unfold oj;split
 · rename_i m h
   obtain⟨h1,_,_,_,h5⟩:=IF h;rw[aP]at h1;exact .inl ⟨m,rfl,h1,Ku h,h5.wf⟩
 · exact .inr rfl
open Dsk Wal
theorem CO(m:RecT):(kh m).length≤3000:=by
 have h1:=ik m.row;have h2:=aW m.ballot.flat;have h4:=aW m.change.flat;have h5:=aW m.view.flat;have h6:=aW [m.kind,m.whose];have h8:=aW [m.kind,m.epoch];have h9:=aW [m.kind];simp only[BallotT.flat,ChangeT.flat,ViewT.flat,an,aw,aA]at h2 h4 h5 h6 h8 h9;unfold kh
 repeat' split
 all_goals first|omega| (simp only[af,BallotT.flat,ChangeT.flat,ViewT.flat,aw];omega)
abbrev rf(n:Int):Prop:= -9223372036854775808≤n∧n<9223372036854775808
theorem nl{n:Int}(h:rf n):(Lit.int .i64 n).wf=true:=by
 have m1:IntKind.i64.min= -9223372036854775808:=by decide
 have m2:IntKind.i64.max=9223372036854775807:=by decide
 simp only[Lit.wf,m1,m2,ax,decide_eq_true_eq];omega
theorem kE(n:Int):rf (fO n):=by
 unfold fO rf;simp only[IntKind.wrap,IntKind.bits,IntKind.signed];simp;omega
structure CW(c:CellT):Prop where
 inn:rf c.inn
 out:rf c.out
 given: ∀(j:Nat) (h:j<5),rf c.given[j]
class OkRow(y:RowT):Prop where
 version:rf y.version
 cells: ∀(k:Nat) (h:k<4),CW y.cells[k]
 heir: ∀(i:Nat) (h:i<5),rf y.heir[i]
 left: ∀(i k:Nat) (h:i<5) (g:k<4),CW y.left[i][k]
theorem sw{α:Type}{n:Nat}{v:Vector α n}{x:α}(h:x∈v.toList): ∃(j:Nat) (h:j<n),x=v[j]:=by
 obtain⟨j,hj,rfl⟩:=fe h;rw[aA]at hj;exact⟨j,hj,by simp⟩
theorem FQ{α:Type}{n:Nat}(v:Vector α n)(j:Nat)(h:j<n):v[j]∈v.toList:=by simp
theorem yR{m:Nat}{v:Vector CellT m}(h: ∀(k:Nat) (h:k<m),CW v[k]):WF (bR v.toList):=λn hn=>by
 obtain⟨c,hc,hn⟩:=jZ.1 hn;obtain⟨k,hk,rfl⟩:=sw hc;simp only[CellT.flat,bN]at hn;rcases hn with rfl|rfl|hn
 · exact nl (h k hk).inn
 · exact nl (h k hk).out
 · obtain⟨j,hj,rfl⟩:=sw hn
   exact nl ((h k hk).given j hj)
theorem OkRow.wf{x:RowT}(h:OkRow x):WF x.flat:=λn hn=>by
 simp only[RowT.flat,bN,cG]at hn;rcases hn with rfl|hn|hn|hn
 · exact nl h.version
 · exact yR h.cells n hn
 · obtain⟨j,hj,rfl⟩:=sw hn
   exact nl (h.heir j hj)
 · obtain⟨v,hv,hn⟩:=jZ.1 hn
   obtain⟨j,hj,rfl⟩:=sw hv;exact yR (λk hk=>h.left j k hj hk) n hn
abbrev JT:= @OkRow.wf
theorem CW.of{m:Nat}{v:Vector CellT m}(h:WF (bR v.toList))(k:Nat)(hk:k<m):CW v[k]:=by
 have q: ∀n∈v[k].flat,rf n:=λn hn=>yS (h n (jZ.2 ⟨_,FQ v k hk,hn⟩))
 exact⟨q _ (by simp[CellT.flat]),q _ (by simp[CellT.flat]),λj hj=>q _ (by simp[CellT.flat])⟩
theorem OkRow.of{x:RowT}(h:WF x.flat):OkRow x:=
 ⟨yS (h _ (by simp[RowT.flat])),CW.of λn hn=>h n (by simp[RowT.flat,hn]),λi hi=>yS (h _ (by simp[RowT.flat])),
  λi k hi hk=>CW.of (λn hn=>h n (by simp only[RowT.flat,bN,cG,jZ];exact .inr (.inr (.inr ⟨_,FQ x.left i hi,hn⟩)))) k hk⟩
class OkVw(v:ViewT):Prop where
 rng:Rng v
 wf:WF v.flat
class OkVt(v:VoteT):Prop where
 view:OkVw v.view
 ballot:WF v.ballot.flat
 change:WF v.change.flat
 best:WF v.best.flat
class OkMg(m:MsgT):Prop where
 row:OkRow m.row
 view:OkVw m.view
 ballot:WF m.ballot.flat
 had:WF m.had.flat
 change:WF m.change.flat
variable {δ:Type}
class OkR(K:outParam (Dk δ))(s:MS δ):Prop where
 e:K.ok s.e
 id:cH s.id=true
 view:OkVw s.view
 own:OkRow s.own
 mir: ∀(i:Nat) (h:i<5),OkRow s.mirror.rows[i]
 book: ∀(i:Nat) (h:i<5),OkRow s.book.rows[i]
 last: ∀(i:Nat) (h:i<5),OkRow s.last[i]
 acc:WF s.acc.flat
 vote: ∀vt,s.vote=some vt→OkVt vt
variable {K:Dk δ}
instance OkRow.zero:OkRow RowT.zero:=OkRow.of tame_rzero.wf
theorem CW.zero:CW .zero:=⟨by decide,by decide,λj hj=>by
 match j,hj with
 |0,_|1,_|2,_|3,_|4,_=>exact⟨(by decide:(-9223372036854775808:Int)≤0),(by decide:(0:Int)<9223372036854775808)⟩⟩
instance {s:MS δ}[h:OkR K s]:OkRow s.own:=h.own
instance {s:MS δ}[h:OkR K s]:OkVw s.view:=h.view
instance {m:MsgT}[h:OkMg m]:OkRow m.row:=h.row
instance {m:MsgT}[h:OkMg m]:OkVw m.view:=h.view
theorem oD{α:Type}{n:Nat}{p:α→Prop}{v:Vector α n}{i:Nat}(hi:i<n){x:α}(h: ∀(j:Nat) (hj:j<n),p v[j])(hx:p x)(j:Nat)(hj:j<n):p (v.set i x hi)[j]:=by
 rw[Vector.getElem_set];split
 · exact hx
 · exact h j hj
instance {s:MS δ}[h:OkR K s](w:Int):OkRow (dp s.mirror w):=by unfold dp;split;exact h.mir _ _;exact .zero
instance {s:MS δ}[h:OkR K s](w:Int):OkRow (cz s.book w):=by unfold cz;split;exact h.book _ _;exact .zero
instance {s:MS δ}[h:OkR K s](w:Int):OkRow (nG s w):=by unfold nG;split;exact h.last _ _;exact .zero
theorem uk{x:RowT}[h:OkRow x](key:Int):CW (dM x key):=by unfold dM;split;exact h.cells _ _;exact .zero
theorem Hz{x:RowT}[h:OkRow x](i:Int):rf (fR x i):=by unfold fR;split;exact h.heir _ _;exact⟨by decide,by decide⟩
theorem Ho{x:RowT}[h:OkRow x](i:Int)(k:Nat)(hk:k<4):CW (xi x i)[k]:=by unfold xi;split;exact h.left _ _ _ _;exact OkRow.zero.cells k hk
theorem w7{x:RowT}[h:OkRow x]{key n counts:Int}{c:CellT}(hc:CW c):OkRow (kS x key n counts c).1:=by
 unfold kS;split
 · exact .zero
 · refine⟨kE _,λk hk=>?_,λi hi=>?_,λi k hi hk=>?_⟩
   · show CW (lq x key c).cells[k]
     unfold lq;split
     · exact oD (p:=CW) (AK (by assumption)) h.cells hc k hk
     · exact h.cells k hk
   · show rf (lq x key c).heir[i]
     unfold lq;split<;>exact h.heir i hi
   · show CW (lq x key c).left[i][k]
     unfold lq;split<;>exact h.left i k hi hk
instance {x:RowT}[OkRow x](key n:Int):OkRow (oM x key n).1:=by
 unfold oM;split
 · have:=uk (x:=x) key
   exact w7 ⟨kE _,this.out,this.given⟩
 · exact .zero
instance {x:RowT}[OkRow x](key n:Int):OkRow (oN x key n).1:=by
 unfold oN;split
 · have:=uk (x:=x) key
   exact w7 ⟨this.inn,kE _,this.given⟩
 · exact .zero
instance {x:RowT}[OkRow x](key n to':Int):OkRow (lp x key n to').1:=by
 unfold lp;split
 · have:=uk (x:=x) key
   refine w7 ?_;unfold xt;split
   · exact⟨this.inn,this.out,oD (p:=rf) (fl (by assumption)) this.given (kE _)⟩
   · exact this
 · exact .zero
theorem wx{x:RowT}(h:OkRow x){w v:Int}{l:Vector CellT 4}(hv:rf v)(hl: ∀(k:Nat) (h:k<4),CW l[k]):OkRow (oK x w v l):=by
 unfold oK;split
 · exact⟨h.version,h.cells,oD (p:=rf) (fl (by assumption)) h.heir hv,λi k hi hk=>oD (p:=λu:Vector CellT 4=>CW u[k]) (fl (by assumption)) (λj hj=>h.left j k hj hk) (hl k hk) i hi⟩
 · exact h
instance {x d:RowT}[h:OkRow x][g:OkRow d](who:Int):OkRow (dT x who d).1:=by
 have q: ∀k,OkRow (og x who d k):=λk=>by
  induction k with
  |zero=>exact wx h (kE _) g.cells
  |succ k ih=>
   have e:og x who d (k+1)=ny who d (og x who d k) k:=by unfold og;rw[cV,eT];rfl
   rw[e];unfold ny;split
   · exact wx ih (Hz _) (Ho _)
   · exact ih
 unfold dT;split
 · exact .zero
 split
 · exact .zero
 · exact⟨kE _,(q 5).cells,(q 5).heir,(q 5).left⟩
instance {s:MS δ}[h:OkR K s](l:List Int):OkRow (qg s l):=by
 have: ∀(l:List Int) (x:RowT),OkRow x→OkRow (l.foldl (λx i=>if 0<fR x i then x else(dT x i (nG s i)).1) x):=λl=>by
  induction l with
  |nil=>exact λx hx=>hx
  |cons i l ih=>exact λx hx=>ih _ (by dsimp only;split;exact hx;exact inferInstance)
 exact this l _ h.own
instance {s:MS δ}[h:OkR K s](o:OpT):OkRow (db s o).1:=by
 have:OkRow (gx (s.rep .nil) o).1:=by
  unfold gx
  repeat' split
  all_goals first|exact .zero|exact inferInstanceAs (OkRow (oM s.own _ _).1)|exact inferInstanceAs (OkRow (oN s.own _ _).1)|exact inferInstanceAs (OkRow (lp s.own _ _ _).1)
 unfold db iI
 repeat' split
 all_goals first|exact .zero|exact this
theorem xp{l:List Int}{k:Nat}(h:k<l.length):(ints l)[k]?=some (.int .i64 (l.getD k 0)):=by simp[ints,h,List.getD_eq_getElem?_getD]
theorem oY(s:MS δ)(k:Nat):gZ s (k+1)=gZ s k++(if CS s k then [((k:Nat):Int)]else []):=by
 unfold gZ;rw[cV,List.filter_append,dB]
 by_cases h:CS s k=true<;>simp[h]
theorem wu(b:Int)(k:Nat):ko b (k+1)=ko b k++(if HO b ((k:Nat):Int)then [((k:Nat):Int)]else []):=by
 unfold ko;rw[cV,List.filter_append,dB]
 by_cases h:HO b ((k:Nat):Int)=true<;>simp[h]
theorem tJ(b:Int)(k:Nat):(ko b k).length≤k:=by
 unfold ko;rw[bM];exact ou (po _ _) (by simp)
theorem ug{v:ViewT}{w i:Int}(h:(jE v w).isSome=true)(g:(jE v w).getD 0=i):jE v w=some i:=by
 cases q:jE v w with
 |none=>rw[q]at h;cases h
 |some z=>rw[q]at g;rw[←g];rfl
theorem AS{s:MS δ}{k:Nat}(h:CS s k=true):jE s.view ((k:Nat):Int)=some s.id∧fR s.own ((k:Nat):Int)≤0:=by
 unfold CS at h;rw[ax,decide_eq_true_iff,decide_eq_true_iff]at h;exact h
theorem MZ{s:MS δ}{k:Nat}(h1:(jE s.view ((k:Nat):Int)).isSome=true)(h2:(jE s.view ((k:Nat):Int)).getD 0=s.id)(h3:fR s.own ((k:Nat):Int)≤0):CS s k=true:=by
 unfold CS;rw[ax,decide_eq_true_iff,decide_eq_true_iff];refine⟨?_,h3⟩;cases q:jE s.view ((k:Nat):Int)with
 |none=>rw[q]at h1;cases h1
 |some z=>rw[q]at h2;rw[←h2];rfl
theorem HG(s:MS δ)(k:Nat):(gZ s k).length≤k:=by
 unfold gZ;rw[bM];exact ou (po _ _) (by simp)
theorem MV{x d:RowT}{who:Int}(h:cH who=true)(h2: ¬0<fR x who):(dT x who d).2=0:=by
 rw[dT,h,if_neg (by decide),if_neg h2]
theorem Da(K:Dk δ){l:List Int}{q:Nat}(h:q<l.length)(s:MS δ):fX K (l.take (q+1)) s=qn K (fX K (l.take q) s) (l.getD q 0):=by
 unfold fX;rw[bH h,eT,List.getD_eq_getElem?_getD,List.getElem?_eq_getElem h];rfl
theorem uS(s:MS δ){l:List Int}{q:Nat}(h:q<l.length):qg s (l.take (q+1))=(if 0<fR (qg s (l.take q)) (l.getD q 0)then qg s (l.take q)else(dT (qg s (l.take q)) (l.getD q 0) (nG s (l.getD q 0))).1):=by
 unfold qg;rw[bH h,eT,List.getD_eq_getElem?_getD,List.getElem?_eq_getElem h];rfl
theorem xD{s:MS δ}{i:Int}(h:i∈bG s):cH i=true∧jE s.view i=some s.id∧fR s.own i≤0:=by
 unfold bG gZ at h;rw[eS]at h;obtain⟨k,hk,rfl⟩:=h;rw[Nc,dX]at hk;have h2:=hk.2;unfold CS at h2;rw[ax,decide_eq_true_iff,decide_eq_true_iff]at h2;exact⟨decide_eq_true ⟨by omega,by omega⟩,h2.1,h2.2⟩
theorem gz(x:RowT){k:Nat}(h:k<5):fR x ((k:Nat):Int)=x.heir[k]:=by
 rw[fR,dif_pos (show cH ((k:Nat):Int)=true from decide_eq_true ⟨by omega,by omega⟩)];rfl
theorem H8(w:Int):(gR w).length≤1000000:=by unfold gR;split<;>simp
theorem FR{k:Nat}(h:k<5):cH ((k:Nat):Int)=true:=decide_eq_true ⟨by omega,by omega⟩
theorem Hp(x:RowT){k:Nat}(h:k<5):xi x ((k:Nat):Int)=x.left[k]:=by
 rw[xi,dif_pos (FR h)];rfl
theorem D5(x:RowT){k:Nat}(h:k<5)(v:Int)(l:Vector CellT 4):oK x ((k:Nat):Int) v l= {x with heir:=x.heir.set k v h,left:=x.left.set k l h}:=by
 rw[oK,dif_pos (FR h)];rfl
theorem oW(x:RowT)(who:Int)(dead:RowT)(k:Nat):og x who dead (k+1)=ny who dead (og x who dead k) k:=by unfold og;rw[cV,eT];rfl
instance OkVw.first:OkVw firstV:=⟨Rng.first,λn hn=>by
 have h:n∈[(1:Int),7,0,0,0,0,0]:=hn;simp only[bN,List.not_mem_nil,or_false,or_self]at h
 rcases h with rfl|rfl|rfl<;>decide⟩
instance OkVw.zero:OkVw ViewT.zero:=⟨Rng.zero,λn hn=>by
 have h:n∈[(0:Int),0,0,0,0,0,0]:=hn;simp only[bN,List.not_mem_nil,or_false,or_self]at h
 rcases h with rfl;decide⟩
theorem DK{v:ViewT}(h1:rf v.epoch)(h2:rf v.members)(hr:Rng v):WF v.flat:=λn hn=>by
 simp only[ViewT.flat,bN]at hn;rcases hn with rfl|rfl|hn
 · exact nl h1
 · exact nl h2
 · obtain⟨j,hj,rfl⟩:=sw hn
   have:=hr j hj;exact nl ⟨by omega,by omega⟩
theorem si(n:Int):rf (IntKind.i64.wrap n):=kE n
instance OkVw.next{v:ViewT}[h:OkVw v](c:ChangeT):OkVw (dL v c).1:=by
 unfold dL;split
 · exact .zero
 split
 · split
   · exact .zero
   · exact⟨h.rng,DK (si _) (si _) h.rng⟩
 split
 · split
   · exact .zero
   · have hr:Rng ⟨IntKind.i64.wrap (v.epoch+1),mA .i64 v.members (2^c.who.toNat),rM v c⟩:=λi hi=>by
      show 0≤(rM v c)[i]∧(rM v c)[i]≤5;unfold rM;rw[Vector.getElem_mapIdx];unfold tZ;split
      · have hm:cH c.heir=true:=by
         rename_i q _ _ _ _;simp only[Nf,Bool.not_eq_true',not_or,Bool.not_eq_false]at q;exact q.2
        have hm2:0≤c.heir∧c.heir<5:=of_decide_eq_true hm;omega
      · exact h.rng i hi
     exact⟨hr,DK (si _) (si _) hr⟩
 · exact .zero
theorem JM{b:BallotT}(h1:rf b.round)(h2:rf b.who):WF b.flat:=λn hn=>by
 have h:n∈[b.round,b.who]:=hn;simp only[bN,List.not_mem_nil,or_false]at h;rcases h with rfl|rfl
 · exact nl h1
 · exact nl h2
theorem gN:WF BallotT.zero.flat:=JM (by decide) (by decide)
theorem pu:WF ChangeT.zero.flat:=λn hn=>by
 have h:n∈[(0:Int),0,0]:=hn;simp only[bN,List.not_mem_nil,or_false,or_self]at h;rcases h with rfl;decide
instance OkMg.sealed(w:Int)(y:RowT)[h:OkRow y]:OkMg (gX w y):=⟨h, .zero,gN,gN,pu⟩
instance OkMg.sealW(w:Int)(v:ViewT)[h:OkVw v]:OkMg (oL w v):=⟨.zero,h,gN,gN,pu⟩
section
variable {s:MS δ}
instance [h:OkR K s](l:List SaidT):OkR K (iM K s l):=⟨h.e,h.id,h.view,h.own,h.mir,h.book,h.last,h.acc,h.vote⟩
instance {p:Prop}[Decidable p]{a b:MS δ}[ha:OkR K a][hb:OkR K b]:OkR K (if p then a else b):=by split;exact ha;exact hb
instance {f:MS δ→MS δ}{t:Int}{m:MsgT}[h:OkR K s][hf:OkR K (f s)]:OkR K (nt K f s t m):=by
 unfold nt;split
 · exact hf
 · exact⟨h.e,h.id,h.view,h.own,h.mir,h.book,h.last,h.acc,h.vote⟩
instance [h:OkR K s](t:Int)(m:MsgT):OkR K (D9 K s t m):=inferInstanceAs (OkR K (iM K s _))
instance [h:OkR K s](r:RecT):OkR K (eh K s r):=⟨K.sure _ _ h.e (CO r),h.id,h.view,h.own,h.mir,h.book,h.last,h.acc,h.vote⟩
instance [h:OkR K s](a b c:Int):OkR K (dv s a b c):=⟨h.e,h.id,h.view,h.own,h.mir,h.book,h.last,h.acc,h.vote⟩
instance [h:OkR K s]:OkR K (bC s):=⟨h.e,h.id,h.view,h.own,h.mir,h.book,h.last,h.acc,h.vote⟩
instance [h:OkR K s](f:Int):OkR K (iK s f):=⟨h.e,h.id,h.view,h.own,h.mir,h.book,h.last,h.acc,h.vote⟩
instance [h:OkR K s]:OkR K (mf s):=⟨h.e,h.id,h.view,h.own,h.mir,h.book,h.last,h.acc,h.vote⟩
theorem zb{b:BookT}{w:Int}{x:RowT}(h: ∀(i:Nat) (h:i<5),OkRow b.rows[i])(hx:OkRow x): ∀(i:Nat) (h:i<5),OkRow (fz b w x).1.rows[i]:=by
 unfold fz;split
 · unfold Au
   split
   · exact oD (p:=OkRow) (fl (by assumption)) h hx
   · exact h
 · exact h
instance OkR.merge[h:OkR K s](w:Int)(x:RowT)[hx:OkRow x]:OkR K (F6 s w x):=⟨h.e,h.id,h.view,h.own,h.mir,zb h.book hx,h.last,h.acc,h.vote⟩
instance [h:OkR K s]:OkR K (gL s):=⟨h.e,h.id,h.view,h.own,h.mir,zb h.book h.own,h.last,h.acc,h.vote⟩
theorem Ev{b:MirT}{w:Int}{x:RowT}(h: ∀(i:Nat) (h:i<5),OkRow b.rows[i])(hx:OkRow x): ∀(i:Nat) (h:i<5),OkRow (mw b w x).1.rows[i]:=by
 unfold mw;split
 · unfold AI
   split
   · exact oD (p:=OkRow) (fl (by assumption)) h hx
   · exact h
 · exact h
instance [h:OkR K s](w:Int)(x:RowT)[hx:OkRow x]:OkR K (iJ s w x):=⟨h.e,h.id,h.view,h.own,Ev h.mir hx,h.book,h.last,h.acc,h.vote⟩
instance [h:OkR K s](w:Int):OkR K (l5 s w):=⟨h.e,h.id,h.view,h.own,λi hi=>by
 show OkRow (od s.mirror w).rows[i]
 unfold od;split<;>exact h.mir i hi,h.book,h.last,h.acc,h.vote⟩
instance [h:OkR K s](x:RowT)[hx:OkRow x](op:Int):OkR K (uT s x op):=⟨h.e,h.id,h.view,hx,h.mir,h.book,h.last,h.acc,h.vote⟩
instance [OkR K s]:OkR K (fo K s):=inferInstanceAs (OkR K (iM K s _))
instance [OkR K s](y:RowT):OkR K (mD K s y):=inferInstanceAs (OkR K (iM K s _))
instance [OkR K s](v:ViewT):OkR K (nS K s v):=inferInstanceAs (OkR K (iM K s _))
instance [OkR K s](m:MsgT):OkR K (jH K s m):=inferInstanceAs (OkR K (iM K s _))
instance [OkR K s](x:RowT)[OkRow x](op:Int):OkR K (eQ K s x op).1:=by unfold eQ;split<;>exact inferInstance
instance [h:OkR K s]:OkR K (m8 K s):=by
 unfold m8;split
 · exact h
 split
 · exact inferInstance
 · exact h
instance [OkR K s]:OkR K (lO K s):=by unfold lO;exact inferInstance
instance [h:OkR K s](f:Int)(m:MsgT):OkR K (dP K s f m):=by
 unfold dP
 repeat' split
 all_goals exact inferInstance
instance [h:OkR K s](f:Int)(m:MsgT)[OkMg m]:OkR K (iX K s f m):=by
 unfold iX
 repeat' split
 all_goals exact inferInstance
theorem Ko{v:Vector RowT 5}{w:Int}{x:RowT}(h: ∀(i:Nat) (h:i<5),OkRow v[i])(hx:OkRow x): ∀(i:Nat) (h:i<5),OkRow (BU v w x)[i]:=by
 unfold BU;split
 · exact oD (p:=OkRow) (fl (by assumption)) h hx
 · exact h
instance [h:OkR K s](w:Int)(x:RowT)[hx:OkRow x]:OkR K (lM s w x):=⟨h.e,h.id,h.view,h.own,h.mir,h.book,by
 show ∀(i:Nat) (h:i<5),OkRow (if rl s w=0∨(nG s w).version<x.version then BU s.last w x else s.last)[i];split
 · exact Ko h.last hx
 · exact h.last,h.acc,h.vote⟩
instance [OkR K s](f w:Int)(y:RowT)[OkRow y]:OkR K (we s f w y):=by
 have h:OkR K (lM s w y):=inferInstance;exact⟨h.e,h.id,h.view,h.own,h.mir,h.book,h.last,h.acc,h.vote⟩
instance [h:OkR K s](f:Int)(m:MsgT)[OkMg m]:OkR K (fY K s f m):=by unfold fY;split<;>exact inferInstance
theorem wA[OkR K s]{f:MS δ→MS δ}(hf:OkR K (f s))(t:Int)(m:MsgT):OkR K (nt K f s t m):=by unfold nt;split;exact hf;exact inferInstance
instance [h:OkR K s](f w:Int):OkR K (fy K s f w):=by
 unfold fy
 repeat' split
 · exact h
 · exact wA inferInstance _ _
 · exact inferInstance
 · exact wA inferInstance _ _
instance [h:OkR K s](i w:Int):OkR K (g8 K s i w):=by
 unfold g8;split
 · exact h
 · exact wA inferInstance _ _
instance [OkR K s](i:Int):OkR K (qn K s i):=by unfold qn;exact inferInstance
theorem uj: ∀(l:List Int) (s:MS δ),OkR K s→OkR K (fX K l s)
 | [],_,h=>h
 |i::l,s,h=>uj l (qn K s i) inferInstance
instance [h:OkR K s]:OkR K (rS K s):=uj _ _ h
theorem OI(n:Int)(h:rf n):WF ({AccT.zero with epoch:=n}:AccT).flat:=λk hk=>by
 have q:k∈[n,0,0,0,0,0,0,0]:=hk;simp only[bN,List.not_mem_nil,or_false,or_self]at q;rcases q with rfl|rfl
 · exact nl h
 · decide
instance [h:OkR K s](v:ViewT)[hv:OkVw v]:OkR K (m6 s v):=⟨h.e,h.id,hv,h.own,h.mir,h.book,h.last,OI _ (yS (hv.wf _ (by simp[ViewT.flat]))),λ_ e=>nomatch e⟩
instance [h:OkR K s](v:ViewT)[OkVw v]:OkR K (ii K s v):=by
 unfold ii
 repeat' split
 all_goals exact inferInstance
instance [h:OkR K s](f:Int)(m:MsgT)[OkMg m]:OkR K (mE K s f m):=by unfold mE;exact inferInstance
instance [h:OkR K s](c:ChangeT):OkR K (lu K s c):=by
 unfold lu
 repeat' split
 all_goals exact inferInstance
class OkAc(a:AccT):Prop where wf:WF a.flat
instance [h:OkR K s]:OkAc s.acc:=⟨h.acc⟩
theorem nO{a b:List Int}(h:WF (a++b)):WF a:=λn hn=>h n (List.mem_append_left _ hn)
theorem tv{a b:List Int}(h:WF (a++b)):WF b:=λn hn=>h n (Qq _ hn)
theorem OkAc.vow{a:AccT}(h:OkAc a):WF a.vow.flat:=tv (nO (nO h.wf))
theorem OkAc.had{a:AccT}(h:OkAc a):WF a.had.flat:=tv (nO h.wf)
theorem OkAc.change{a:AccT}(h:OkAc a):WF a.change.flat:=tv h.wf
theorem OkAc.epoch{a:AccT}(h:OkAc a):WF [a.epoch]:=nO (nO (nO h.wf))
theorem OkAc.ask{a:AccT}(h:OkAc a){ep:Int}{b:BallotT}(hb:WF b.flat):OkAc (bW a ep b).1:=by
 unfold bW;split
 · exact h
 · exact⟨l3 (l3 (l3 h.epoch hb) h.had) h.change⟩
theorem OkAc.put{a:AccT}(h:OkAc a){ep:Int}{b:BallotT}{c:ChangeT}(hb:WF b.flat)(hc:WF c.flat):OkAc (gy a ep b c).1:=by
 unfold gy;split
 · exact h
 · exact⟨l3 (l3 (l3 h.epoch hb) hb) hc⟩
instance [h:OkR K s](n:Int):OkR K (du s n):=⟨h.e,h.id,h.view,h.own,h.mir,h.book,h.last,h.acc,h.vote⟩
instance [h:OkR K s](v:VoteT)[hv:OkVt v]:OkR K (lw s v):=⟨h.e,h.id,h.view,h.own,h.mir,h.book,h.last,h.acc,λ_ e=>cU e▸hv⟩
instance [h:OkR K s](a:AccT)[ha:OkAc a]:OkR K (xV s a):=⟨h.e,h.id,h.view,h.own,h.mir,h.book,h.last,ha.wf,h.vote⟩
instance {v:VoteT}[h:OkVt v]{m:MsgT}[hm:OkMg m](w:Int):OkVt (eO v w m.ballot m.had m.change).1:=by
 unfold eO;split
 · exact h
 · unfold wc
   split
   · exact⟨h.view,h.ballot,hm.change,hm.had⟩
   · exact⟨h.view,h.ballot,h.change,h.best⟩
instance {v:VoteT}[h:OkVt v](w:Int)(b:BallotT):OkVt (gv v w b).1:=by
 unfold gv;split
 · exact h
 · exact⟨h.view,h.ballot,h.change,h.best⟩
instance {m:MsgT}[hm:OkMg m][h:OkR K s](ep:Int):OkAc (bW s.acc ep m.ballot).1:=OkAc.ask ⟨h.acc⟩ hm.ballot
instance {m:MsgT}[hm:OkMg m][h:OkR K s](ep:Int):OkAc (gy s.acc ep m.ballot m.change).1:=OkAc.put ⟨h.acc⟩ hm.ballot hm.change
instance tookF_ok[h:OkR K s](f:Int)(m:MsgT):OkR K (lx K f m s):=by
 unfold lx;split
 · exact h
 · rename_i vt hv
   have:=h.vote vt hv;split<;>exact inferInstance
theorem su[h:OkR K s]{f:MS δ→MS δ}(hf: ∀s:MS δ,OkR K s→OkR K (f s))(w:Int)(m:MsgT):OkR K (eP K f s w m):=by
 unfold eP
 repeat' split
 · exact inferInstance
 · exact h
 · exact h
 · exact hf _ inferInstance
instance [OkR K s](w:Int)(m:MsgT):OkR K (ru K s w m):=su (λ_ _=>inferInstance) w m
instance [h:OkR K s](w:Int)(m:MsgT):OkR K (nZ K w m s):=by unfold nZ;exact inferInstance
instance [h:OkR K s](w:Int)(m:MsgT)[OkMg m]:OkR K (pe K w m s):=by
 unfold pe
 repeat' split
 all_goals exact inferInstance
instance [OkR K s](w:Int)(m:MsgT)[OkMg m]:OkR K (tD K s w m):=su (λ_ _=>inferInstance) w m
instance OkMg.putM(ep:Int){vt:VoteT}[h:OkVt vt]:OkMg (jb ep vt.ballot vt.change):=⟨.zero, .zero,h.ballot,gN,h.change⟩
instance OkMg.askM(ep:Int){vt:VoteT}[h:OkVt vt]:OkMg (fA ep vt.ballot):=⟨.zero, .zero,h.ballot,gN,pu⟩
instance OkMg.takenM(ep:Int){m:MsgT}[h:OkMg m]:OkMg (jN ep m.ballot):=⟨.zero, .zero,h.ballot,gN,pu⟩
theorem OkMg.promM(ep:Int){m:MsgT}[h:OkMg m]{a:AccT}(ha:OkAc a):OkMg (kP ep m.ballot a.had a.change):=⟨.zero, .zero,h.ballot,ha.had,ha.change⟩
theorem uI[h:OkR K s]{f:MS δ→MsgT→MS δ}{m:MsgT}(hf: ∀s:MS δ,OkR K s→OkR K (f s m)):OkR K (jP K f s m):=by
 unfold jP;split
 · exact hf _ inferInstance
 · exact inferInstance
instance [h:OkR K s](vt:VoteT)[OkVt vt]:OkR K (kQ K s vt):=uI λ_ _=>inferInstance
instance [h:OkR K s](f:Int)(m:MsgT)[OkMg m]:OkR K (pP K f m s):=by
 unfold pP;split
 · exact h
 · rename_i vt hv
   have:=h.vote vt hv;split<;>exact inferInstance
instance [OkR K s](w:Int)(m:MsgT)[OkMg m]:OkR K (rz K s w m):=su (λ_ _=>inferInstance) w m
theorem xR[h:OkR K s](w:Int)(m:MsgT)[OkMg m]{a:AccT}(ha:OkAc a):OkR K (oo K w m a s):=by
 have:=OkMg.promM m.epoch (m:=m) ha;unfold oo;exact inferInstance
instance [h:OkR K s](w:Int)(m:MsgT)[OkMg m]:OkR K (qu K w m s):=by
 unfold qu
 repeat' split
 · exact h
 · exact inferInstance
 · exact xR w m inferInstance
 · exact xR w m inferInstance
instance [OkR K s](w:Int)(m:MsgT)[OkMg m]:OkR K (tE K s w m):=su (λ_ _=>inferInstance) w m
instance [h:OkR K s](vt:VoteT)[OkVt vt]:OkR K (mT K s vt):=uI λ_ _=>inferInstance
instance [h:OkR K s](vt:VoteT)[OkVt vt]:OkR K (n4 K s vt):=by unfold n4;split<;>exact inferInstance
theorem DI{v:VoteT}{w:Int}{b had:BallotT}{c:ChangeT}(h:(eO v w b had c).2=true):(eO v w b had c).1.putting=true:=by
 unfold eO at h ⊢;split
 · rename_i q;rw[if_pos q]at h;cases h
 · rename_i q;rw[if_neg q]at h;exact h
theorem If(s:MS δ)[h:OkR K s]:WF (eD s).flat:=JM (kE _) (by have:0≤s.id∧s.id<5:=of_decide_eq_true h.id;exact⟨by show _≤s.id;omega,by show s.id<_;omega⟩)
class OkCh(c:ChangeT):Prop where wf:WF c.flat
instance newVote_ok[h:OkR K s](c:ChangeT)[hc:OkCh c]:OkVt (ju s.view (eD s) c):=⟨h.view,If s,hc.wf,gN⟩
instance {vt:VoteT}[h:OkVt vt]:OkCh vt.change:=⟨h.change⟩
instance [h:OkR K s](c:ChangeT)[OkCh c]:OkR K (rV K s c):=by
 have:OkAc (bW s.acc s.view.epoch (eD s)).1:=OkAc.ask ⟨h.acc⟩ (If s);unfold rV;exact inferInstance
instance [h:OkR K s](c:ChangeT)[OkCh c]:OkR K (co K s c).1:=by
 unfold co
 repeat' split
 all_goals exact inferInstance
theorem rU{c:ChangeT}(h:(co K s c).2=0):(co K s c).1.vote=some (ju s.view (eD s) c):=by
 unfold co at h ⊢
 by_cases h1:(bW s.acc s.view.epoch (eD s)).2=false
 · rw[if_pos h1]at h;cases h
 by_cases h2:sN K s (gV s.view.epoch (eD s))≠0
 · rw[if_neg h1,if_pos h2]at h;exact absurd h h2
 · rw[if_neg h1,if_neg h2];rfl
instance [h:OkR K s](op:Int)(c:ChangeT)[OkCh c]:OkR K (dV K s op c).1:=by
 unfold dV
 repeat' split
 all_goals exact inferInstance
instance [h:OkR K s](o:OpT):OkR K (nN K s o).1:=by
 unfold nN
 repeat' split
 all_goals exact inferInstance
instance [h:OkR K s](o:OpT)[OkCh o.change]:OkR K (bV K s o).1:=by unfold bV;split<;>exact inferInstance
instance [h:OkR K s]:OkR K (bY K s):=by unfold bY;exact inferInstance
instance [h:OkR K s]:OkR K (cf K s):=by unfold cf;exact inferInstance
instance [h:OkR K s]:OkR K (gf K s):=by unfold gf;exact inferInstance
instance [h:OkR K s]:OkR K (sC K s):=by
 unfold sC;split
 · exact h
 · rename_i vt hv
   have:=h.vote vt hv
   repeat' split
   all_goals exact inferInstance
instance [h:OkR K s]:OkR K (iu K s):=by unfold iu;exact inferInstance
instance [h:OkR K s](f:Int)(m:MsgT)[OkMg m]:OkR K (gg K s f m):=by
 unfold gg
 repeat' split
 all_goals exact inferInstance
theorem iD(s:MS δ)(c:ChangeT):(co K s c).1.replies=s.replies:=by
 unfold co;split
 · rfl
 · split<;>rfl
theorem jv(s:MS δ)(x:RowT)(op:Int):(eQ K s x op).1.replies=s.replies:=by unfold eQ;split<;>rfl
end
end Api
end

section
namespace Leg
open Go Codec Api
def WX(P:Program)(ops:Array Oper)(Q:QQ)(is:List Nat)(a:Act)(w:World):Prop:=
 ∀(b:Frame) (k:List Item) (cs:List Frame),∃e a' w',Q e a' w'∧Arrives P (lone (b.at a (.inRegion ops is::k)) cs w) b k cs e a' w'
theorem WX.nil{P:Program}{ops:Array Oper}{Q:QQ}{a:Act}{w:World}(h:Q .normal a w):WX P ops Q [] a w:=
 λ_ _ _=>⟨.normal,a,w,h, .one step_region_end⟩
theorem WX.region{P:Program}{id:Nat}{ops:Array Oper}{Q:QQ}{a:Act}{w:World}(h:WX P ops Q (List.range ops.size) a w):(Code.region id ops false).wp P Q a w:=
 λb k cs=>let ⟨e,a',w',q,r⟩:=h b k cs;⟨e,a',w',q, .of_steps (.one step_region) r⟩
section
variable {P:Program} {ops:Array Oper} {Q:QQ} {is:List Nat} {a:Act} {w:World} {i:Nat} {o:Oper}
theorem F7(b:Frame)(k:List Item)(ho:ops[i]?=some o)(a:Act)(v:Value):(b.at a (.inRegion ops (i::is)::k)).finish v=b.at (a.put o.dst v) (.inRegion ops is::k):=by rw[Frame.finish_at,ho];rfl
theorem WX.value{v:Value}{w1:World}(ho:ops[i]?=some o)(hw:Region.wanted o (yielded ops a.tmps)=true)(hr:(execOp a.eval o).run P w= .ok (.value v) w1)(h:WX P ops Q is (a.put o.dst v) w1):WX P ops Q (i::is) a w:=λb k cs=>by
 obtain⟨e,a',w',q,r⟩:=h b k cs;refine⟨e,a',w',q, .of_steps (.one (step_lone_go ?_)) r⟩;rw[stepG_op ho hw,←F7 b k ho];simp[stepG.apply,hr]
theorem WX.comm{v:Value}{w1 w2:World}{cases:Array CommCase}{blocking:Bool}{shape:CommShape}(ho:ops[i]?=some o)(hw:Region.wanted o (yielded ops a.tmps)=true)(hr:(execOp a.eval o).run P w= .ok (.comm cases blocking shape) w1)
 (hs: ∀fr cs es,stepG P true (Conc.G fr cs) w= .comm (Conc.G fr cs) cases blocking shape w1 es→step P (Conc.solo (Conc.G fr cs) w)= .next (Conc.solo (Conc.G (fr.finish v) cs) w2)) (h:WX P ops Q is (a.put o.dst v) w2):WX P ops Q (i::is) a w:=λb k cs=>by
 obtain⟨e,a',w',q,r⟩:=h b k cs;have h1:=stepG_op (P:=P) (b:=b) (k:=k) (cs:=cs) (w:=w) (rest:=is) ho hw
 have h2: ∃es,stepG P true (Conc.G (b.at a (.inRegion ops (i::is)::k)) cs) w= .comm (Conc.G (b.at a (.inRegion ops (i::is)::k)) cs) cases blocking shape w1 es:=by
  unfold Conc.G;rw[h1];simp only[stepG.apply,Sem.runT_eq,hr];exact⟨_,rfl⟩
 obtain⟨es,h2⟩:=h2;have h3:=hs _ _ _ h2;rw[F7 b k ho]at h3;exact⟨e,a',w',q, .of_steps (.one h3) r⟩
abbrev Ni:= @WX.comm
end
end Leg
namespace Leg
open Go Codec Api
section
variable (P:Program) (w0:World) (F:Hl) (n:Nat)
def TX(ops:Array Oper)(Q:QQ)(is:List Nat)(D:List Deferred)(L:List (Nat×Value))(H:List HP):Prop:=∀a w,Fr n D L a→Same w0 w→Sat H F w→WX P ops Q is a w
end
section
variable {P:Program} {w0:World} {F:Hl} {n:Nat} {ops:Array Oper} {Q:QQ} {is:List Nat} {D:List Deferred} {L:List (Nat×Value)} {H:List HP} {i d:Nat} {o:Oper}
theorem TC.regionX{id:Nat}{l:List Oper}(h:TX P w0 F n l.toArray Q (List.range l.length) D L H):TC P w0 F n (.region id l.toArray false) Q D L H:=
 λa w f s m=>WX.region (by simpa using h a w f s m)
abbrev yE:= @TC.regionX
theorem TX.nil(h:TE w0 F n Q .normal D L H):TX P w0 F n ops Q [] D L H:=λa w f s m=>WX.nil (h a w f s m)
abbrev Lm:= @TX.nil
theorem TX.v{v:Value}(ho:ops[i]?=some o)(hw:Want n D ops o L)(hd:o.dst=some d)(hn:Nat.blt d n=true)(h1:PV P n D L (Sat H F) o v)(h:TX P w0 F n ops Q is D ((d,v)::L) H):TX P w0 F n ops Q (i::is) D L H:=λa w f s m=>by
 refine WX.value ho (hw a f) (h1 a w f m) ?_;rw[hd];exact h _ _ (f.put (lb hn) _) s m
abbrev tk:= @TX.v
end
end Leg
namespace Leg
open Go Codec Api Go.Conc
section
variable {P:Program} {w0:World} {F:Hl} {n:Nat} {ops:Array Oper} {Q:QQ} {is:List Nat} {D:List Deferred} {L:List (Nat×Value)} {H:List HP} {i d:Nat} {o:Oper}
theorem Sat.chan{w:World}{c cap s r:Nat}{vs:List Value}(m:Sat H F w)(k:Nat)(hk:Nat.blt k H.length=true)(e:H.getD k (λ_=>True)=dZ c cap vs s r):w.heap[c]?=some (.chan cap vs.toArray false s r false):=by
 obtain⟨h,d,e',x⟩:=m;obtain⟨h1,h2,d',rfl,a,_⟩:=eB k (lb hk) x;rw[e]at a
 have:hp w c=some (.chan cap vs.toArray false s r false):=by
  rw[e',jg];exact gp (by rw[show h1=sg c _ from a];simp[sg])
 exact this
theorem Sat.setChan{w:World}{c cap s r s' r':Nat}{vs vs':List Value}(m:Sat H F w)(k:Nat)(hk:Nat.blt k H.length=true)(e:H.getD k (λ_=>True)=dZ c cap vs s r):Sat (H.set k (dZ c cap vs' s' r')) F (w.setChan c cap vs'.toArray false s' r' false):=by
 have hc:=m.chan k hk e
 have hlt:c<w.heap.size:=by
  by_cases q:c<w.heap.size
  · exact q
  · rw[Array.getElem?_eq_none (by omega)]at hc;cases hc
 exact m.write k (lb hk) e (heap_setChan w c cap vs'.toArray false s' r' false hlt) (λj hj=>by simp[World.setChan,Array.getElem?_setIfInBounds,Ne.symm hj])
theorem Same.setChan{w w':World}(s:Same w w')(c cap:Nat)(b:Array Value)(cl:Bool)(x y:Nat)(t:Bool):Same w (w'.setChan c cap b cl x y t):=s.trans ⟨rfl,rfl,rfl,by simp[World.setChan]⟩
theorem sI{x:Operand}{so:Option Operand}{e:TypeId}{z:Value}{blocking:Bool}(ho:o.op= .select #[⟨x,so,e⟩] blocking)(hz:(P.info? e).map (·.zero)=some (some z))(ev:Operand→Value)(w:World):
 (execOp ev o).run P w= .ok (.comm #[{chan:=ev x,send:=so.map ev,zero:=z}] blocking .select) w:=by
 simp[execOp,ho,Sem.run_bind,nW hz]
theorem TX.sendRoom{x y:Operand}{e c cap s r:Nat}{z v:Value}{vs:List Value}(k:Nat)(ho:ops[i]?=some o)(hw:Want n D ops o L)(hop:o.op= .select #[⟨x,some y,e⟩] false)(hd:o.dst=some d)(hn:Nat.blt d n=true)(hz:(P.info? e).map (·.zero)=some (some z))
 (hx:cA L x=some (.chan (some c))) (hy:cA L y=some v) (hk:Nat.blt k H.length=true) (hH:H.getD k (λ_=>True)=dZ c cap vs s r) (hroom:vs.length<cap)
 (h:TX P w0 F n ops Q is D ((d, .tuple #[.int .i64 0, .bool false])::L) (H.set k (dZ c cap (vs++[v]) (s+1) r))):TX P w0 F n ops Q (i::is) D L H:=λa w f sm m=>by
 have hc:=m.chan k hk hH;have hr:=sI (P:=P) hop hz a.eval w;rw[f.eval hx]at hr;simp only[Option.map_some,f.eval hy]at hr;refine Ni (v:= .tuple #[.int .i64 0, .bool false]) (w2:=w.setChan c cap (vs++[v]).toArray false (s+1) r false) ho (hw a f) hr (λfr cs es hs=>?_) ?_
 · have:=step_lone_sel_send_room (k:=0) hs rfl (λj c' hj hjc=>by cases j with|zero=>exact absurd rfl hj|succ j=>simp at hjc) hc (by simpa using hroom)
   rw[this];simp[commResult,goInt]
 · rw[hd]
   exact h _ _ (f.put (lb hn) _) (sm.setChan ..) (m.setChan k hk hH)
theorem TX.sendFull{x y:Operand}{e c cap s r:Nat}{z v:Value}{vs:List Value}(k:Nat)(ho:ops[i]?=some o)(hw:Want n D ops o L)(hop:o.op= .select #[⟨x,some y,e⟩] false)(hd:o.dst=some d)(hn:Nat.blt d n=true)(hz:(P.info? e).map (·.zero)=some (some z))
 (hx:cA L x=some (.chan (some c))) (hy:cA L y=some v) (hk:Nat.blt k H.length=true) (hH:H.getD k (λ_=>True)=dZ c cap vs s r) (hfull:cap≤vs.length)
 (h:TX P w0 F n ops Q is D ((d, .tuple #[.int .i64 (-1), .bool false])::L) H):TX P w0 F n ops Q (i::is) D L H:=λa w f sm m=>by
 have hc:=m.chan k hk hH;have hr:=sI (P:=P) hop hz a.eval w;rw[f.eval hx]at hr;simp only[Option.map_some,f.eval hy]at hr;refine Ni (v:= .tuple #[.int .i64 (-1), .bool false]) (w2:=w) ho (hw a f) hr (λfr cs es hs=>?_) ?_
 · have:=step_lone_sel_default hs (λcc hcc=>by
    obtain rfl:cc=scase c v z:=by simpa [scase]using hcc
    exact noWay_send hc (by simpa using hfull))
   rw[this];simp[commResult,goInt]
 · rw[hd]
   exact h _ _ (f.put (lb hn) _) sm m
theorem TX.recvBuf{x:Operand}{e c cap s r:Nat}{z v:Value}{vs:List Value}(k:Nat)(ho:ops[i]?=some o)(hw:Want n D ops o L)(hop:o.op= .select #[⟨x,none,e⟩] false)(hd:o.dst=some d)(hn:Nat.blt d n=true)(hz:(P.info? e).map (·.zero)=some (some z))
 (hx:cA L x=some (.chan (some c))) (hk:Nat.blt k H.length=true) (hH:H.getD k (λ_=>True)=dZ c cap (v::vs) s r)
 (h:TX P w0 F n ops Q is D ((d, .tuple #[.int .i64 0, .bool true,v])::L) (H.set k (dZ c cap vs s (r+1)))):TX P w0 F n ops Q (i::is) D L H:=λa w f sm m=>by
 have hc:=m.chan k hk hH;have hr:=sI (P:=P) hop hz a.eval w;rw[f.eval hx]at hr;simp only[Option.map_none]at hr;refine Ni (v:= .tuple #[.int .i64 0, .bool true,v]) (w2:=w.setChan c cap vs.toArray false s (r+1) false) ho (hw a f) hr (λfr cs es hs=>?_) ?_
 · have:=step_lone_sel_recv_buf (k:=0) hs rfl (λj c' hj hjc=>by cases j with|zero=>exact absurd rfl hj|succ j=>simp at hjc) hc (by simp)
   rw[this];simp[commResult,goInt]
 · rw[hd]
   exact h _ _ (f.put (lb hn) _) (sm.setChan ..) (m.setChan k hk hH)
theorem TX.recvNone{x:Operand}{e c cap s r:Nat}{z:Value}(k:Nat)(ho:ops[i]?=some o)(hw:Want n D ops o L)(hop:o.op= .select #[⟨x,none,e⟩] false)(hd:o.dst=some d)(hn:Nat.blt d n=true)(hz:(P.info? e).map (·.zero)=some (some z))
 (hx:cA L x=some (.chan (some c))) (hk:Nat.blt k H.length=true) (hH:H.getD k (λ_=>True)=dZ c cap [] s r)
 (h:TX P w0 F n ops Q is D ((d, .tuple #[.int .i64 (-1), .bool false,z])::L) H):TX P w0 F n ops Q (i::is) D L H:=λa w f sm m=>by
 have hc:=m.chan k hk hH;have hr:=sI (P:=P) hop hz a.eval w;rw[f.eval hx]at hr;simp only[Option.map_none]at hr;refine Ni (v:= .tuple #[.int .i64 (-1), .bool false,z]) (w2:=w) ho (hw a f) hr (λfr cs es hs=>?_) ?_
 · have:=step_lone_sel_default hs (λcc hcc=>by
    obtain rfl:cc=rcase c z:=by simpa [rcase]using hcc
    exact noWay_recv hc)
   rw[this];simp[commResult,goInt]
 · rw[hd]
   exact h _ _ (f.put (lb hn) _) sm m
end
end Leg
namespace Leg
open Go Codec Api Go.Conc
section
variable {P:Program} {w0:World} {F:Hl} {n:Nat} {ops:Array Oper} {Q:QQ} {D:List Deferred} {L:List (Nat×Value)} {H:List HP} {d:Nat} {o:Oper}
theorem PV.lenChan{t e:TypeId}{dir:ChanDir}{x:Operand}{c cap s r:Nat}{vs:List Value}(k:Nat)(ho:o.op= .call {callee:= .builtin .len,args:=#[x],argTypes:=#[t]})(ht:P.underlying t=some (.chan dir e))(hx:cA L x=some (.chan (some c)))
 (hk:Nat.blt k H.length=true) (hH:H.getD k (λ_=>True)=dZ c cap vs s r):PV P n D L (Sat H F) o (.int .i64 ((vs.length:Nat):Int)):=λa w f m=>by
 have hl:=Conc.run_len_chan (P:=P) (w:=w) (dir:=dir) (e:=e) t o.type ht (m.chan k hk hH);simp[execOp,ho,resolve,f.eval hx,invoke,builtin,hl,goInt]
theorem PV.capChan{t e:TypeId}{dir:ChanDir}{x:Operand}{c cap s r:Nat}{vs:List Value}(k:Nat)(ho:o.op= .call {callee:= .builtin .cap,args:=#[x],argTypes:=#[t]})(ht:P.underlying t=some (.chan dir e))(hx:cA L x=some (.chan (some c)))
 (hk:Nat.blt k H.length=true) (hH:H.getD k (λ_=>True)=dZ c cap vs s r):PV P n D L (Sat H F) o (.int .i64 ((cap:Nat):Int)):=λa w f m=>by
 have hl:=Conc.run_cap_chan (P:=P) (w:=w) (dir:=dir) (e:=e) t o.type ht (m.chan k hk hH);simp[execOp,ho,resolve,f.eval hx,invoke,builtin,hl,goInt]
end
abbrev hX(T U b:Nat)(ls:List (List UInt8)):HP:=pack (λq:Nat×List Value×Nat×Nat=>[ah b [.chan (some q.1)] T,dZ q.1 8 q.2.1 q.2.2.1 q.2.2.2,eA q.2.1 ls U])
def rc(T U:Nat)(bs:List Nat)(W:List (List (List UInt8)))(k:Nat):HP:=if k%6=0 then(λ_=>True)else hX T U (bs.getD k 0) (W.getD k [])
def pv(T U:Nat)(bs:List Nat)(W:List (List (List UInt8))):List HP:=(List.range 25).map (rc T U bs W)
def fJ(T U:Nat)(bs:List Nat)(W:List (List (List UInt8))):HP:=bD (pv T U bs W)
def gk(T U:Nat)(bs:List Nat)(W:List (List (List UInt8)))(k:Nat):HP:=bD ((pv T U bs W).eraseIdx k)
def fa(bs:List Nat):List Value:=(List.range 25).map λk=>if k%6=0 then .pointer none else .pointer (some ⟨bs.getD k 0,0,none⟩)
theorem IK(bs:List Nat){k:Nat}(h:k<25):(fa bs)[k]?=some (if k%6=0 then .pointer none else .pointer (some ⟨bs.getD k 0,0,none⟩)):=by unfold fa;simp[h]
abbrev eG(NT T U n:Nat)(W:List (List (List UInt8))):HP:=pack (λbs:List Nat=>[ah n (fa bs) NT,fJ T U bs W])
section
variable {T U:Nat} {bs:List Nat} {W:List (List (List UInt8))} {k:Nat} {H:List HP} {h:Hl}
theorem Dl:(pv T U bs W).length=25:=by simp[pv]
theorem Fh(hk:k<25)(s:bD (fJ T U bs W::H) h):bD (rc T U bs W k::gk T U bs W k::H) h:=by
 have s1:bD (pv T U bs W++H) h:=(bZ _ _).2 s;have e:(pv T U bs W).getD k (λ_=>True)=rc T U bs W k:=by simp[pv,List.getD_eq_getElem?_getD,hk]
 have p:=mU (λ_=>True) (pv T U bs W) k (by rw[Dl];exact hk);rw[e]at p;have s2:=eg (p.append_right H) s1;exact cB s2 (λ_ a=>a) λ_ b=>(bZ _ _).1 b
theorem Dg{W':List (List (List UInt8))}(hk:k<25)(hW: ∀j,j≠k→W'.getD j []=W.getD j [])(s:bD (rc T U bs W' k::gk T U bs W k::H) h):bD (fJ T U bs W'::H) h:=by
 have e0:(pv T U bs W').eraseIdx k=(pv T U bs W).eraseIdx k:=by
  refine List.ext_getElem? λj=>?_
  rw[List.getElem?_eraseIdx,List.getElem?_eraseIdx]
  have: ∀i,i≠k→(pv T U bs W')[i]?=(pv T U bs W)[i]?:=λi hi=>by
   simp only[pv,List.getElem?_map];cases q:(List.range 25)[i]?with
   |none=>rfl
   |some m=>
    have hm:m=i:=by
     by_cases hi25:i<25
     · simp[hi25]at q;exact q.symm
     · simp[hi25]at q
    subst hm;simp only[Option.map_some,rc,hW m hi]
  split
  · exact this j (by omega)
  · exact this (j+1) (by omega)
 have e:(pv T U bs W').getD k (λ_=>True)=rc T U bs W' k:=by simp[pv,List.getD_eq_getElem?_getD,hk]
 have p:=mU (λ_=>True) (pv T U bs W') k (by rw[Dl];exact hk);rw[e,e0]at p;have s2:bD ((rc T U bs W' k::(pv T U bs W).eraseIdx k)++H) h:=cB s (λ_ a=>a) λ_ b=>(bZ _ _).2 b
 exact(bZ _ _).1 (eg (p.symm.append_right H) s2)
end
def bA(from' to':Int):Nat:=from'.toNat*5+to'.toNat
def gM(w:Int):Bool:=decide (0≤w∧w<5)
theorem Kf{f t:Int}(hf:gM f=true)(ht:gM t=true):bA f t<25:=by
 have h1:0≤f∧f<5:=of_decide_eq_true hf;have h2:0≤t∧t<5:=of_decide_eq_true ht;unfold bA;omega
theorem tx{f t:Int}(hf:gM f=true)(ht:gM t=true):bA f t%6=0↔f=t:=by
 have h1:0≤f∧f<5:=of_decide_eq_true hf;have h2:0≤t∧t<5:=of_decide_eq_true ht;unfold bA;omega
end Leg
end

section
namespace Wal
open Go Leg Codec Api Dsk
end Wal
namespace Leg
open Go Codec Api
end Leg
namespace Leg
open Go Codec Api
theorem qN{us:List Value}{ls:List (List UInt8)}{e:Nat}{H:List HP}{F:Hl}{w:World}(i:Nat)(hi:Nat.blt i H.length=true)(hH:H.getD i (λ_=>True)=eA us ls e)(m:Sat H F w):us.length=ls.length∧∀u∈us,u.oneCell'=true:=by
 obtain⟨h,d,e',x⟩:=m;obtain⟨h1,h2,d',rfl,a,_⟩:=eB i (lb hi) x;rw[hH]at a;refine⟨a.1,λu hu=>?_⟩;obtain⟨j,hj,rfl⟩:=fe hu;obtain⟨u,e1,k1,k2,dk,rfl,a3⟩:=xN us ls e _ a.1 a.2 j (by rw[←a.1];exact hj);rw[List.getElem?_eq_getElem hj]at e1;injection e1 with e1
 rw[e1];exact(BB a3 (λb o q=>q):IsB u _ k1).one
section
variable {P:Program} {n:Nat} {D:List Deferred} {L:List (Nat×Value)} {S:World→Prop} {o:Oper}
end
end Leg
namespace Wal
open Go Leg Codec Api Dsk
end Wal
namespace Leg
open Go Codec Api
section
variable {P:Program} {n:Nat} {D:List Deferred} {L:List (Nat×Value)} {S:World→Prop} {o:Oper}
end
theorem HN{us:List Value}{ls:List (List UInt8)}{e:Nat}{u:Value}{l:List UInt8}{H:List HP}{h:Hl}(s:bD (eA (u::us) (l::ls) e::H) h):bD (gC u l e::eA us ls e::H) h:=by
 obtain⟨h1,h2,d,rfl,⟨hl,a⟩,b⟩:=s;obtain⟨g1,g2,d',rfl,a1,a2⟩:=a;exact mQ.1 ⟨_,h2,d,rfl,⟨g1,g2,d',rfl,a1,⟨by simpa using hl,a2⟩⟩,b⟩
def Aw(ls:List (List UInt8))(bs:List UInt8):List (List UInt8):=if ls.length<8 then ls++[bs]else ls
def dK(f t:Int):Bool:=gM f&&gM t&& !decide (f=t)
def oS(W:List (List (List UInt8)))(f t:Int)(bs:List UInt8):List (List (List UInt8)):=if dK f t then W.set (bA f t) (Aw (W.getD (bA f t) []) bs)else W
theorem ir{f t:Int}(h:dK f t=true):bA f t<25∧¬bA f t%6=0:=by
 unfold dK at h;rw[ax,ax]at h;refine⟨Kf h.1.1 h.1.2,λq=>?_⟩;have:=(tx h.1.1 h.1.2).1 q;rw[this]at h;simp at h
theorem zD{T U:Nat}{bs:List Nat}{W:List (List (List UInt8))}{k:Nat}(h: ¬k%6=0):rc T U bs W k=hX T U (bs.getD k 0) (W.getD k []):=by unfold rc;rw[if_neg h]
theorem nP{T U:Nat}{bs:List Nat}{W:List (List (List UInt8))}{f t:Int}(hv:dK f t=true){H:List HP}{h:Hl}(s:bD (fJ T U bs W::H) h):bD (hX T U (bs.getD (bA f t) 0) (W.getD (bA f t) [])::gk T U bs W (bA f t)::H) h:=by
 obtain⟨h1,h2⟩:=ir hv;have:=Fh h1 s
 rwa [zD h2]at this
theorem tw{T U:Nat}{bs:List Nat}{W:List (List (List UInt8))}{f t:Int}{ls:List (List UInt8)}(hv:dK f t=true)(hW:W.length=25){H:List HP}{h:Hl}(s:bD (hX T U (bs.getD (bA f t) 0) ls::gk T U bs W (bA f t)::H) h):bD (fJ T U bs (W.set (bA f t) ls)::H) h:=by
 obtain⟨h1,h2⟩:=ir hv;refine Dg (W:=W) h1 (λj hj=>?_) ?_
 · rw[List.getD_eq_getElem?_getD,List.getD_eq_getElem?_getD,List.getElem?_set_ne (λe=>hj e.symm)]
 · rw[zD h2,show(W.set (bA f t) ls).getD (bA f t) []=ls by rw[List.getD_eq_getElem?_getD,List.getElem?_set_self (by omega)];rfl]
   exact s
end Leg
namespace Leg
open Go Codec Api
def b8(w:Int):UInt8:=Wal.r8 w
theorem vN(w:Int):IntKind.u8.wrap w=(((b8 w).toNat:Nat):Int):=Wal.r8_wrap w
open Go.Conc
section
variable {P:Program} {w0:World} {F:Hl} {n:Nat} {ops:Array Oper} {Q:QQ} {is:List Nat} {D:List Deferred} {L:List (Nat×Value)} {H:List HP} {i d:Nat} {o:Oper}
theorem TX.recv1{x:Operand}{t e:TypeId}{dir:ChanDir}{c cap s r:Nat}{z v:Value}{vs vs0:List Value}(k:Nat)(ho:ops[i]?=some o)(hw:Want n D ops o L)(hop:o.op= .recv t x false)(hd:o.dst=some d)(hn:Nat.blt d n=true)(ht:P.underlying t=some (.chan dir e))(hz:(P.info? e).map (·.zero)=some (some z))
 (hx:cA L x=some (.chan (some c))) (hk:Nat.blt k H.length=true) (hH:H.getD k (λ_=>True)=dZ c cap vs0 s r) (he:vs0=v::vs)
 (h:TX P w0 F n ops Q is D ((d,v)::L) (H.set k (dZ c cap vs s (r+1)))):TX P w0 F n ops Q (i::is) D L H:=λa w f sm m=>by
 subst he;have hc:=m.chan k hk hH
 have hr:(execOp a.eval o).run P w= .ok (.comm #[{chan:= .chan (some c),send:=none,zero:=z}] true (.recv false)) w:=by
  simp[execOp,hop,f.eval hx,Sem.run_bind,run_underlying ht,nW hz]
 refine Ni (v:=v) (w2:=w.setChan c cap vs.toArray false s (r+1) false) ho (hw a f) hr (λfr cs es hs=>?_) ?_
 · have:=step_lone_recv_buf false hs hc (by simp)
   rw[this];simp[got]
 · rw[hd]
   exact h _ _ (f.put (lb hn) _) (sm.setChan ..) (m.setChan k hk hH)
theorem TX.send1{x y:Operand}{c cap s r:Nat}{v:Value}{vs:List Value}(k:Nat)(ho:ops[i]?=some o)(hw:Want n D ops o L)(hop:o.op= .send x y)(hd:o.dst=none)
 (hx:cA L x=some (.chan (some c))) (hy:cA L y=some v) (hk:Nat.blt k H.length=true) (hH:H.getD k (λ_=>True)=dZ c cap vs s r) (hroom:vs.length<cap)
 (h:TX P w0 F n ops Q is D L (H.set k (dZ c cap (vs++[v]) (s+1) r))):TX P w0 F n ops Q (i::is) D L H:=λa w f sm m=>by
 have hc:=m.chan k hk hH
 have hr:(execOp a.eval o).run P w= .ok (.comm #[{chan:= .chan (some c),send:=some v,zero:= .tuple #[]}] true .send) w:=by
  simp[execOp,hop,f.eval hx,f.eval hy,Sem.run]
 refine Ni (v:=undef) (w2:=w.setChan c cap (vs++[v]).toArray false (s+1) r false) ho (hw a f) hr (λfr cs es hs=>?_) ?_
 · have:=step_lone_send_room hs hc (by simpa using hroom)
   rw[this];simp
 · rw[hd]
   exact h _ _ f (sm.setChan ..) (m.setChan k hk hH)
end
def CD(k:Nat)(u:Value):Value:=if k=0 then .slice none 0 0 else u
theorem IC{α:Type}{l:List α}{k:Nat}(h:k<l.length):l.drop k++l.take k=l[k]::(l.drop (k+1)++l.take k):=by rw[dy h];rfl
theorem B7{α:Type}{l:List α}{k:Nat}(h:k<l.length):(l.drop (k+1)++l.take k)++[l[k]]=l.drop (k+1)++l.take (k+1):=by rw[aS,bH h]
end Leg
namespace Leg
open Go
theorem Jr{us:List Value}{k:Nat}(h:k=0)(hk:k<us.length):us[k]=CD (k+1) (us.getD 0 undef):=by
 subst h;unfold CD;rw[if_neg (by omega)];simp[List.getD_eq_getElem?_getD,hk]
theorem Jp{u:Value}{k:Nat}(h: ¬k=0):CD k u=CD (k+1) u:=by unfold CD;rw[if_neg h,if_neg (by omega)]
theorem Jq{u:Value}{k:Nat}(h: ¬k=0):CD k u=u:=if_neg h
end Leg
namespace Leg
open Go
def sA{α:Type}:List α→List α
 | []=>[]
 |a::l=>l++[a]
def Ie{α:Type}(l:List α):Bool:=decide (l.length≠0∧l.length≠8)
def DM{α:Type}[Inhabited α](l:List α):List α:=if l.length≠0∧l.length≠8 then l++[l.getD 0 default]else l
end Leg
namespace Leg
open Go
def k9{α:Type}:Nat→List α→List α
 |0,l=>l
 |n+1,l=>sA (k9 n l)
theorem Gm{α:Type}(l:List α):(sA l).length=l.length:=by cases l<;>simp[sA]
theorem kb{α:Type}: ∀(n:Nat) (l:List α),(k9 n l).length=l.length
 |0,_=>rfl
 |n+1,l=>by rw[k9,Gm,kb n l]
theorem Gl{α:Type}{l:List α}{x:α}:x∈sA l↔x∈l:=by
 cases l with
 |nil=>rfl
 |cons a l=>simp[sA,or_comm]
theorem oG{α:Type}{x:α}: ∀(n:Nat) (l:List α),x∈k9 n l↔x∈l
 |0,_=>Iff.rfl
 |n+1,l=>by rw[k9,Gl,oG n l]
theorem yX{α β:Type}(f:α→β)(l:List α):sA (l.map f)=(sA l).map f:=by cases l<;>simp[sA]
theorem Kj{α β:Type}[Inhabited α][Inhabited β](f:α→β)(l:List α):DM (l.map f)=(DM l).map f:=by
 unfold DM;rw[bM];split
 · rename_i h
   cases l with
   |nil=>exact absurd rfl h.1
   |cons a l=>simp
 · rfl
theorem Kk{α β:Type}(f:α→β)(l:List α):Ie (l.map f)=Ie l:=by unfold Ie;rw[bM]
end Leg
end

section
namespace Api
open Go Leg Codec Dsk Wal
instance :Inhabited MsgT:=⟨.zero⟩
structure LD where
 cnt:Nat
 used:Int
 D:DS
structure DkOk(D:DS):Prop where
 ok:D.Ok
 inn:Wal.DS.In D
 ws:D.ws.length≤2048
 up:D.dn=false→D.ws=[]
def Wrote(D:DS)(n:Nat)(r:Int×DS):Prop:=r.2.Ok∧Wal.DS.In r.2∧((D.dn=true∧r.2=D)∨(D.dn=false∧r.2.ws.length≤D.ws.length+n∧(r.1=0→r.2.dn=false)∧(r.1≠0→r.2.dn=true)))
theorem Wrote.none{D:DS}(h:D.Ok)(hi:Wal.DS.In D):Wrote D 0 (0,D):=⟨h,hi,by
 cases hd:D.dn
 · exact .inr ⟨rfl,aK _,λ_=>by first|exact hd|rfl,λq=>absurd rfl q⟩
 · exact .inl ⟨rfl,rfl⟩⟩
theorem Wrote.more{D:DS}{n m:Nat}{r:Int×DS}(h:Wrote D n r)(hm:n≤m):Wrote D m r:=⟨h.1,h.2.1,h.2.2.imp id λ⟨a,b,c⟩=>⟨a,by omega,c⟩⟩
theorem Wrote.one{D:DS}(h:D.Ok)(hi:Wal.DS.In D){at':Int}{bs:List UInt8}(h1:0≤at'∧at'<2048)(h2:bs.length≤64):Wrote D 1 (D.write at' bs):=by
 cases hd:D.dn
 · by_cases hc:D.ar=true∧D.lf=0
   · rw[DG h1 h2 hc]
     exact⟨⟨h.s,h.ws,h.lf⟩,hi, .inr ⟨hd,Nat.le_succ _,(λq=>absurd q (by show ¬(4:Int)=0;decide)),λ_=>rfl⟩⟩
   · have h4:D.ar=false∨0<D.lf:=by
      have:=h.lf;cases q:D.ar
      · exact .inl rfl
      · right
        have:D.lf≠0:=λe=>hc ⟨q,e⟩
        omega
     rw[ri h1 h2 hd h4];exact⟨FG h h2 h4,FH hi h1, .inr ⟨hd,by simp[Av],λ_=>rfl,λq=>absurd rfl q⟩⟩
 · have e:D.write at' bs=(4,D):=by
    rw[DS.write,if_neg (by omega),if_pos (.inl hd)];cases D;simp only at hd;rw[hd]
   rw[e];exact⟨h,hi, .inl ⟨hd,rfl⟩⟩
theorem Wrote.then{D:DS}{n m:Nat}{r q:Int×DS}(h:Wrote D n r)(h0:r.1=0)(g:Wrote r.2 m q):Wrote D (n+m) q:=by
 obtain⟨_,_,h⟩:=h;refine⟨g.1,g.2.1,?_⟩;rcases h with⟨hd,e⟩| ⟨hd,hl,hz,_⟩
 · rw[e]at g
   rcases g.2.2 with⟨_,e2⟩| ⟨hd2,_⟩
   · exact .inl ⟨hd,e2⟩
   · rw[hd]at hd2;cases hd2
 · rcases g.2.2 with⟨hd2,_⟩| ⟨_,hl2,h3⟩
   · rw[hz h0]at hd2;cases hd2
   · exact .inr ⟨hd,by omega,h3⟩
theorem Wrote.writes: ∀(ss:List jL) (at':Int) (D:DS),D.Ok→Wal.DS.In D→0≤at'→at'+ss.length≤2048→(∀s∈ss,s.length=64)→Wrote D ss.length (gn ss at' D)
 | [],_,D,h,hi,_,_,_=>Wrote.none h hi
 |s::ss,at',D,h,hi,h0,h1,hs=>by
  simp only[an]at h1;have h2:=hs s (by simp);have o:=Wrote.one h hi (at':=at') (bs:=s) (by omega) (by omega);rw[gn];split
  · rename_i hz
    have:=o.then hz (Wrote.writes ss (at'+1) _ o.1 o.2.1 (by omega) (by omega) λx hx=>hs x (by simp[hx]))
    rwa [l9]at this
  · exact o.more (by simp)
theorem Wrote.wipes: ∀(n:Nat) (at':Int) (D:DS),D.Ok→Wal.DS.In D→0≤at'→at'+n≤2048→Wrote D n (jy n at' D)
 |0,_,D,h,hi,_,_=>Wrote.none h hi
 |n+1,at',D,h,hi,h0,h1=>by
  rw[jy];split
  · exact(Wrote.wipes n (at'+1) D h hi (by omega) (by omega)).more (by omega)
  · have o:=Wrote.one h hi (at':=at') (bs:=[]) (by omega) (by simp)
    split
    · rename_i hz
      have:=o.then hz (Wrote.wipes n (at'+1) _ o.1 o.2.1 (by omega) (by omega))
      rwa [l9]at this
    · exact o.more (by omega)
theorem DkOk.wrote{D:DS}(h:DkOk D){n:Nat}{r:Int×DS}(g:Wrote D n r)(hn:n≤2048):(r.1≠0→DkOk r.2)∧DkOk r.2.sync.2:=by
 obtain⟨ho,hi,hr⟩:=g;rcases hr with⟨hd,e⟩| ⟨hd,hl,h0,h1⟩
 · rw[e]
   refine⟨λ_=>h,?_⟩;rw[DS.sync,if_pos hd];exact h
 · rw[h.up hd]at hl
   simp only[aw,bg]at hl;refine⟨λq=>⟨ho,hi,by omega,λz=>by rw[h1 q]at z;cases z⟩,?_⟩
   by_cases q:r.1=0
   · obtain⟨_,s2,_⟩:=tH (h0 q)
     exact⟨DS.sync_ok ho,Fx hi,by rw[s2];exact aN _,λ_=>s2⟩
   · rw[DS.sync,if_pos (h1 q)]
     exact⟨ho,hi,by show r.2.ws.length≤2048;omega,λz=>by rw[show r.2.dn=true from h1 q]at z;cases z⟩
theorem wG{D:DS}(hI:Wal.DS.In D)(hD:D.Ok): ∀(f:Nat) (cnt used:Int),0≤used→used≤2048→0≤(fT D.read f cnt used).2∧(fT D.read f cnt used).2≤2048∧(fT D.read f cnt used).1.length≤f
 |0,_,_,h0,h1=>⟨h0,h1,aK _⟩
 |f+1,cnt,used,h0,h1=>by
  rw[fT];split
  · exact⟨h0,h1,aN _⟩
  · rename_i b all h
    have h2:=oJ hI hD h0 h;have h3:=(ln (lY hD _) h).1;obtain⟨a,b',c⟩:=wG hI hD f (cnt+1) (used+all) (by omega) h2;exact⟨a,b',by simp only[an];omega⟩
theorem DkOk.open{D:DS}(h:DkOk D):DkOk (bQ D).D∧0≤(bQ D).used∧(bQ D).used≤2048∧(bQ D).recs.length≤2049:=by
 obtain⟨a,b,c⟩:=wG h.inn h.ok ji 0 0 (by omega) (by omega);rw[sZ]at c;have w:=h.wrote (Wrote.wipes (2048- (fT D.read ji 0 0).2).toNat _ D h.ok h.inn a (by omega)) (by omega);unfold bQ;simp only;split
 · rename_i q;exact⟨w.1 q,by show(0:Int)≤0;omega,by show(0:Int)≤2048;omega,aN _⟩
 · split
   · exact⟨w.2,by show(0:Int)≤0;omega,by show(0:Int)≤2048;omega,aN _⟩
   · exact⟨w.2,a,b,by rw[←sZ]at c;exact c⟩
theorem DkOk.arm{D:DS}(h:DkOk D)(n:Int)(hn:n≤9223372036854775807):DkOk (D.arm n):=⟨⟨h.ok.s,h.ok.ws,by show 0≤max n 0∧max n 0≤9223372036854775807;omega⟩,h.inn,h.ws,h.up⟩
theorem DkOk.crash{D:DS}(h:DkOk D)(mask torn cut:Int):DkOk (D.crash mask torn cut):=by
 have c:=Calm.crash h.ok h.inn mask torn cut;exact⟨c.ok,c.inn,aN _,λ_=>rfl⟩
theorem DkOk.new:DkOk .new:=⟨⟨mC,mC,by simp[DS.new],by simp[DS.new]⟩,⟨Qm,Qm⟩,aN _,λ_=>rfl⟩
structure LD.Ok(e:LD):Prop where
 dk:DkOk e.D
 used:0≤e.used∧e.used≤2048
 cnt:(e.cnt:Int)≤4100+e.used
def LD.put(e:LD)(bs:List UInt8):LD×Int:=(⟨(n0 e.D e.cnt e.used bs).cnt,(n0 e.D e.cnt e.used bs).used,(n0 e.D e.cnt e.used bs).D⟩,(n0 e.D e.cnt e.used bs).err)
theorem LD.put_ok(e:LD)(bs:List UInt8)(h:e.Ok)(hb:bs.length≤3000):(e.put bs).1.Ok:=by
 obtain⟨⟨ho,hi,hw,hu⟩,h1,h2⟩:=h;unfold LD.put n0;rw[if_neg (by omega)]
 by_cases hf:(bB bs.length:Int)>2048-e.used
 · rw[if_pos hf];exact⟨⟨ho,hi,hw,hu⟩,h1,h2⟩
 rw[if_neg hf];have hp:0<bB bs.length:=p7 _;have hl:(ct ((e.cnt+1:Nat):Int) bs).length=bB bs.length:=eC _ _;have w:=DkOk.wrote ⟨ho,hi,hw,hu⟩ (Wrote.writes (ct ((e.cnt+1:Nat):Int) bs) e.used e.D ho hi h1.1 (by omega) (Al _ _)) (by omega);simp only;split
 · rename_i q;exact⟨w.1 q,h1,h2⟩
 · split
   · exact⟨w.2,h1,h2⟩
   · exact⟨w.2,(by show 0≤e.used+(bB bs.length:Int)∧e.used+(bB bs.length:Int)≤2048;omega),by show((e.cnt+1:Nat):Int)≤4100+(e.used+bB bs.length);omega⟩
def KD:Dk LD:=⟨LD.put,λe=>e.D.dn,LD.Ok,LD.put_ok⟩
structure Slot where
 run:Option (MS LD)
 D:DS
 past:List ReplyT
structure CL where
 ms:List Slot
 W:List (List MsgT)
def Slot.nil:Slot:=⟨none, .new,[]⟩
def CL.at'(a:CL)(i:Nat):Slot:=a.ms.getD i .nil
def Slot.dk(x:Slot):DS:=match x.run with
 |some s=>s.e.D
 |none=>x.D
def Slot.reps(x:Slot):List ReplyT:=x.past++(match x.run with
 |some s=>s.replies
 |none=>[])
def Slot.up(x:Slot):Bool:=match x.run with
 |some s=> !s.e.D.dn
 |none=>false
def CL.set(a:CL)(i:Nat)(x:Slot):CL:= {a with ms:=a.ms.set i x}
def sM(W:List (List MsgT))(f:Nat)(s:SaidT):List (List MsgT):=if dK ((f:Nat):Int) s.to' then W.set (bA ((f:Nat):Int) s.to') (if(W.getD (bA ((f:Nat):Int) s.to') []).length<8 then W.getD (bA ((f:Nat):Int) s.to') []++[s.msg]else W.getD (bA ((f:Nat):Int) s.to') [])else W
def gD(W:List (List MsgT))(f:Nat)(l:List SaidT):List (List MsgT):=l.foldl (λW s=>sM W f s) W
def MS.hush{δ:Type}(s:MS δ):MS δ:= {s with o:=[]}
def CL.did(a:CL)(i:Nat)(s:MS LD):CL:=⟨a.ms.set i {a.at' i with run:=some s.hush},gD a.W i s.o⟩
def MS.dsk(s:MS LD)(D:DS):MS LD:= {s with e:= {s.e with D:=D}}
def vn(x:Slot)(n:Int):Slot:=match x.run with
 |some s=> {x with run:=some (s.dsk (s.e.D.arm n))}
 |none=> {x with D:=x.D.arm n}
def nI(x:Slot)(mask torn cut:Int):Slot:=⟨none,x.dk.crash mask torn cut,x.reps⟩
def cJ(i:Nat)(D:DS):Option (MS LD)×Int:=
 if(bQ D).err≠0 then(none,(bQ D).err)
 else match lE (bQ D).recs (Cl ((i:Nat):Int) (⟨(bQ D).recs.length,(bQ D).used,(bQ D).D⟩:LD))with
  |none=>(none,1)
  |some s=>(some s,0)
def gW(i:Nat)(x:Slot):Slot×Int:=match x.run with
 |some _=>(x,5)
 |none=>({x with run:=(cJ i x.D).1,D:=(bQ x.D).D},(cJ i x.D).2)
def tf(a:CL)(f t:Nat)(m:MsgT):CL×Int:=match(a.at' t).run with
 |none=>(a,0)
 |some s=>if s.e.D.dn then(a,0)else if(iP (dQ m)).2=0 then(a.did t (gg KD s ((f:Nat):Int) (iP (dQ m)).1),0)else(a,(iP (dQ m)).2)
def CL.way(a:CL)(k:Nat)(l:List MsgT):CL:= {a with W:=a.W.set k l}
def oC(a:CL)(o:OpT):CL×Int:=
 if dK o.at' o.to'=false then(a,5)
 else match a.W.getD (bA o.at' o.to') []with
  | []=>(a,10)
  |m::l=>
   if o.kind=7 then(if Ie (m::l)then(a.way (bA o.at' o.to') (DM (m::l)),0)else(a,3))
   else match k9 (max o.n 0% ((m::l).length:Int)).toNat (m::l)with
    | []=>(a,0)
    |m::l=>if o.kind=6 then(a.way (bA o.at' o.to') l,0)else tf (a.way (bA o.at' o.to') l) o.at'.toNat o.to'.toNat m
def C9(a:CL)(i:Nat)(o:OpT):CL×Int:=match(a.at' i).run with
 |none=>(a,4)
 |some s=>if s.e.D.dn then(a,4)else(a.did i (bV KD s o).1,(bV KD s o).2)
def Bv(a:CL)(i:Nat):CL×Int:=match(a.at' i).run with
 |none=>(a,4)
 |some s=>if s.e.D.dn then(a,4)else(a.did i (iu KD s),0)
def zu(a:CL)(o:OpT):CL×Int:=
 if gM o.at'=false then(a,5)
 else if 0≤o.kind∧o.kind≤4 then C9 a o.at'.toNat o
 else if o.kind=5∨o.kind=6∨o.kind=7 then oC a o
 else if o.kind=8 then Bv a o.at'.toNat
 else if o.kind=9 then(a.set o.at'.toNat (vn (a.at' o.at'.toNat) o.n),0)
 else if o.kind=10 then(a.set o.at'.toNat (nI (a.at' o.at'.toNat) o.mask o.torn o.cut),0)
 else if o.kind=11 then(a.set o.at'.toNat (gW o.at'.toNat (a.at' o.at'.toNat)).1,(gW o.at'.toNat (a.at' o.at'.toNat)).2)
 else(a,5)
def lD(a:CL)(l:List OpT):CL:=l.foldl (λa o=>(zu a o).1) a
def mu(i:Nat):Slot:=(gW i .nil).1
def CL.new:CL:=⟨(List.range 5).map mu,List.replicate 25 []⟩
structure Fresh{δ:Type}(i:Int)(e:δ)(s:MS δ):Prop where
 id:s.id=i
 vote:s.vote=none
 replies:s.replies=[]
 e:s.e=e
 o:s.o=[]
 waits:s.waits=0
 ops:s.ops=0
theorem Fresh.rest{δ:Type}{i:Int}{e:δ}{s:MS δ}(h:Fresh i e s)(m:RecT):Fresh i e (jB s m):=by
 obtain⟨h1,h2,h3,h4,h5,h6,h7⟩:=h;unfold jB
 repeat' split
 all_goals exact⟨h1,by first|exact h2|rfl,h3,h4,h5,h6,h7⟩
theorem Fresh.new{δ:Type}(i:Int)(e:δ):Fresh i e (Cl i e):=⟨rfl,rfl,rfl,rfl,rfl,rfl,rfl⟩
abbrev DE:= @Fresh.new
theorem Fresh.read{δ:Type}{i:Int}{e:δ}: ∀(l:List (List UInt8)) {s s':MS δ},Fresh i e s→lE l s=some s'→Fresh i e s'
 | [],s,s',h,q=>by
  obtain rfl:=cU q;exact h
 |b::l,s,s',h,q=>by
  rw[lE]at q;split at q
  · cases q
  · exact Fresh.read l (h.rest _) q
abbrev tr:= @Fresh.read
theorem km{i:Nat}{D:DS}{s:MS LD}(h:(cJ i D).1=some s):(bQ D).err=0∧lE (bQ D).recs (Cl ((i:Nat):Int) (⟨(bQ D).recs.length,(bQ D).used,(bQ D).D⟩:LD))=some s:=by
 unfold cJ at h;split at h
 · cases h
 · rename_i h0
   refine⟨Decidable.not_not.1 h0,?_⟩;split at h
   · cases h
   · rename_i h2;rw[h2];exact h
theorem zT{v:ViewT}{bs r:List UInt8}(h:mK bs=some (v,r)):OkVw v:=by
 obtain⟨⟨h1,h2,_⟩,_⟩:=tB h;have hr:=sv h;exact⟨hr,DK ⟨by omega,by omega⟩ ⟨by omega,by omega⟩ hr⟩
theorem qO{b:BallotT}{bs r:List UInt8}(h:j9 bs=some (b,r)):WF b.flat:=by
 obtain⟨⟨h1,h2⟩,_⟩:=qq h;exact OkB.wf ⟨h1,h2⟩
theorem Fe{c:ChangeT}{bs r:List UInt8}(h:lv bs=some (c,r)):WF c.flat:=by
 obtain⟨⟨h1,h2,h3⟩,_⟩:=uX h;exact OkC.wf ⟨h1,h2,h3⟩
theorem Eb{x:RowT}{bs r:List UInt8}(h:vg bs=some (x,r)):OkRow x:=OkRow.of (An h)
theorem MR{m:MsgT}{g:Bool}{bs r:List UInt8}(h:cL bs=some ((m,g),r)):OkMg m:=by
 obtain⟨k,r1,_,h⟩:=bK h
 have fin: ∀{m':MsgT} {g':Bool} {b r:List UInt8},pr (m',g') b=some ((m,g),r)→OkMg m'→OkMg m:=λh q=>by
  obtain⟨e,_⟩:=ie h;injection e with e1 e2
  exact e1▸q
 split at h
 · obtain⟨_,_,_,h⟩:=bK h;obtain⟨x,_,hx,h⟩:=bK h;exact fin h ⟨Eb hx, .zero,gN,gN,pu⟩
 split at h
 · obtain⟨_,_,_,h⟩:=bK h;exact fin h ⟨.zero, .zero,gN,gN,pu⟩
 split at h
 · obtain⟨_,_,_,h⟩:=bK h;obtain⟨b,_,hb,h⟩:=bK h;exact fin h ⟨.zero, .zero,qO hb,gN,pu⟩
 split at h
 · obtain⟨_,_,_,h⟩:=bK h;obtain⟨b,_,hb,h⟩:=bK h;obtain⟨d,_,hd,h⟩:=bK h;obtain⟨c,_,hc,h⟩:=bK h;exact fin h ⟨.zero, .zero,qO hb,qO hd,Fe hc⟩
 split at h
 · obtain⟨_,_,_,h⟩:=bK h;obtain⟨b,_,hb,h⟩:=bK h;obtain⟨c,_,hc,h⟩:=bK h;exact fin h ⟨.zero, .zero,qO hb,gN,Fe hc⟩
 split at h
 · obtain⟨v,_,hv,h⟩:=bK h;exact fin h ⟨.zero,zT hv,gN,gN,pu⟩
 split at h
 · obtain⟨_,_,_,h⟩:=bK h;obtain⟨v,_,hv,h⟩:=bK h;exact fin h ⟨.zero,zT hv,gN,gN,pu⟩
 · exact fin h ⟨.zero, .zero,gN,gN,pu⟩
class OkRd(m:RecT):Prop where
 row:OkRow m.row
 view:OkVw m.view
 ballot:WF m.ballot.flat
 change:WF m.change.flat
theorem Mw{m:RecT}{g:Bool}{bs r:List UInt8}(h:dw bs=some ((m,g),r)):OkRd m:=by
 obtain⟨k,r1,_,h⟩:=bK h
 have fin: ∀{m':RecT} {g':Bool} {b r:List UInt8},pr (m',g') b=some ((m,g),r)→OkRd m'→OkRd m:=λh q=>by
  obtain⟨e,_⟩:=ie h;injection e with e1 e2
  exact e1▸q
 split at h
 · obtain⟨x,_,hx,h⟩:=bK h;exact fin h ⟨Eb hx, .zero,gN,pu⟩
 split at h
 · obtain⟨_,_,_,h⟩:=bK h;obtain⟨x,_,hx,h⟩:=bK h;exact fin h ⟨Eb hx, .zero,gN,pu⟩
 split at h
 · obtain⟨_,_,_,h⟩:=bK h;exact fin h ⟨.zero, .zero,gN,pu⟩
 split at h
 · obtain⟨_,_,_,h⟩:=bK h;obtain⟨b,_,hb,h⟩:=bK h;exact fin h ⟨.zero, .zero,qO hb,pu⟩
 split at h
 · obtain⟨_,_,_,h⟩:=bK h;obtain⟨b,_,hb,h⟩:=bK h;obtain⟨c,_,hc,h⟩:=bK h;exact fin h ⟨.zero, .zero,qO hb,Fe hc⟩
 split at h
 · obtain⟨v,_,hv,h⟩:=bK h;exact fin h ⟨.zero,zT hv,gN,pu⟩
 · exact fin h ⟨.zero, .zero,gN,pu⟩
theorem F3(bs:List UInt8):OkMg (iP bs).1:=by
 unfold iP;split
 · rename_i m h;exact MR h
 · exact⟨.zero, .zero,gN,gN,pu⟩
theorem KX(bs:List UInt8):OkRd (oj bs).1:=by
 unfold oj;split
 · rename_i m h;exact Mw h
 · exact⟨.zero, .zero,gN,pu⟩
section
variable {δ:Type} {K:Dk δ} {s:MS δ}
theorem Ks(h:OkR K s)(m:RecT)(hm:OkRd m):OkR K (jB s m):=by
 have ha:OkAc s.acc:=⟨h.acc⟩;unfold jB;split
 · exact⟨h.e,h.id,h.view,hm.row,h.mir,h.book,h.last,h.acc,h.vote⟩
 split
 · have:=hm.row;exact inferInstance
 split
 · exact inferInstance
 split
 · exact⟨h.e,h.id,h.view,h.own,h.mir,h.book,h.last,l3 (l3 (l3 ha.epoch hm.ballot) ha.had) ha.change,h.vote⟩
 split
 · exact⟨h.e,h.id,h.view,h.own,h.mir,h.book,h.last,l3 (l3 (l3 ha.epoch hm.ballot) hm.ballot) hm.change,h.vote⟩
 split
 · have:=hm.view;exact inferInstance
 · exact h
theorem zU{v:Vector RowT 5}(h:v= #v[.zero, .zero, .zero, .zero, .zero])(i:Nat)(hi:i<5):OkRow v[i]:=by
 subst h
 match i,hi with
 |0,_|1,_|2,_|3,_|4,_=>exact OkRow.zero
theorem KM{i:Int}{e:δ}(he:K.ok e)(hi:cH i=true):OkR K (Cl i e):=
 ⟨he,hi, .first, .zero,zU rfl,zU rfl,zU rfl,OI _ (by decide),λ_ q=>nomatch q⟩
theorem Ca: ∀(l:List (List UInt8)) {s s':MS δ},OkR K s→lE l s=some s'→OkR K s'
 | [],s,s',h,q=>by
  obtain rfl:=cU q;exact h
 |b::l,s,s',h,q=>by
  rw[lE]at q;split at q
  · cases q
  · exact Ca l (Ks h _ (KX b)) q
theorem tI{i:Nat}(hi:i<5){D:DS}(hD:DkOk D){s:MS LD}(h:(cJ i D).1=some s):OkR KD s∧Fresh ((i:Nat):Int) (⟨(bQ D).recs.length,(bQ D).used,(bQ D).D⟩:LD) s:=by
 obtain⟨_,h2⟩:=km h;obtain⟨o1,o2,o3,o4⟩:=hD.open;exact⟨Ca _ (KM (K:=KD) ⟨o1,⟨o2,o3⟩,by show(((bQ D).recs.length:Nat):Int)≤4100+(bQ D).used;omega⟩ (decide_eq_true ⟨by omega,by omega⟩)) h2,tr _ (DE _ _) h2⟩
end
class GdM(m:MsgT):Prop where
 kind:0≤m.kind∧m.kind≤9
class GdL(l:List SaidT):Prop where
 all: ∀x∈l,0≤x.msg.kind∧x.msg.kind≤9
theorem Jv(n:Int):0< (vj n).length:=qj _
theorem CJ(n:Int)(l:List Int):0< (bi (n::l)).length:=by
 show 0< (vj n++bi l).length;rw[af];have:=Jv n;omega
theorem MX{m:MsgT}(h:0≤m.kind∧m.kind≤9):0< (dQ m).length:=by
 have p: ∀(l:List Int) (r:List UInt8),0< (bi (m.kind::l)++r).length:=λl r=>by rw[af];have:=CJ m.kind l;omega
 unfold dQ;split
 · exact p _ _
 rename_i h0;split
 · exact CJ _ _
 split
 · exact p _ _
 rename_i h3;split
 · rw[aS,aS];exact p _ _
 split
 · rw[aS];exact p _ _
 split
 · exact p _ _
 split
 · exact p _ _
 · exfalso
   simp only[fb,fi,decide_eq_true_eq]at h0 h3;omega
instance (v:Int):GdM (sY v):=⟨(by decide:(0:Int)≤1∧(1:Int)≤9)⟩
instance (i:Int)(y:RowT):GdM (sQ i y):=⟨(by decide:(0:Int)≤2∧(2:Int)≤9)⟩
instance (v:ViewT):GdM (j5 v):=⟨(by decide:(0:Int)≤7∧(7:Int)≤9)⟩
instance (i:Int)(v:ViewT):GdM (oL i v):=⟨(by decide:(0:Int)≤8∧(8:Int)≤9)⟩
instance (i:Int)(y:RowT):GdM (gX i y):=⟨(by decide:(0:Int)≤9∧(9:Int)≤9)⟩
instance (e:Int)(b:BallotT):GdM (fA e b):=⟨(by decide:(0:Int)≤3∧(3:Int)≤9)⟩
instance (e:Int)(b h:BallotT)(c:ChangeT):GdM (kP e b h c):=⟨(by decide:(0:Int)≤4∧(4:Int)≤9)⟩
instance (e:Int)(b:BallotT)(c:ChangeT):GdM (jb e b c):=⟨(by decide:(0:Int)≤5∧(5:Int)≤9)⟩
instance (e:Int)(b:BallotT):GdM (jN e b):=⟨(by decide:(0:Int)≤6∧(6:Int)≤9)⟩
instance (t:Int)(m:MsgT)[h:GdM m]:GdL [⟨t,m⟩]:=⟨λx hx=>by rw[dm]at hx;subst hx;exact h.kind⟩
instance (i:Int)(m:MsgT)(p:Nat→Bool)(k:Nat)[h:GdM m]:GdL (n5 i m p k):=⟨λx hx=>by
 unfold n5 at hx;obtain⟨j,_,rfl⟩:=eS.1 hx
 exact h.kind⟩
instance (x:RepT):GdL (pR x):=⟨λs hs=>by
 unfold pR at hs;rw[eS]at hs;obtain⟨w,_,rfl⟩:=hs
 exact(show(0:Int)≤0∧(0:Int)≤9 by decide)⟩
section
variable {δ:Type} {K:Dk δ} {s0 s:MS δ}
class Qt(s0 s:MS δ):Prop where
 id:s.id=s0.id
 replies:s.replies=s0.replies
 ops:s.ops=s0.ops
 waits:s.waits=s0.waits∨s.waits=0
 o: ∃l,s.o=s0.o++l∧∀x∈l,0≤x.msg.kind∧x.msg.kind≤9
instance Qt.rfl':Qt s s:=⟨rfl,rfl,rfl, .inl rfl,[],(aP _).symm,λ_ h=>by cases h⟩
theorem Qt.trans{a b c:MS δ}(h:Qt a b)(g:Qt b c):Qt a c:=by
 obtain⟨l,e,hl⟩:=h.o;obtain⟨l2,e2,hl2⟩:=g.o;exact⟨g.id.trans h.id,g.replies.trans h.replies,g.ops.trans h.ops,g.waits.elim (λq=>h.waits.imp (q.trans ·) (q.trans ·)) .inr,l++l2,by rw[e2,e,aS],λx hx=>(cG.1 hx).elim (hl x) (hl2 x)⟩
theorem Qt.same{t:MS δ}(h:Qt s0 s)(h1:t.id=s.id)(h2:t.replies=s.replies)(h3:t.ops=s.ops)(h4:t.waits=s.waits)(h5:t.o=s.o):Qt s0 t:=
 ⟨h1.trans h.id,h2.trans h.replies,h3.trans h.ops,by rw[h4];exact h.waits,by rw[h5];exact h.o⟩
instance [h:Qt s0 s](l:List SaidT)[g:GdL l]:Qt s0 (iM K s l):=by
 refine h.trans ⟨rfl,rfl,rfl, .inl rfl,?_⟩
 by_cases q:K.dn s.e=true
 · exact⟨[],by rw[iM,if_pos q,aP],λ_ h=>by cases h⟩
 · exact⟨l,by rw[iM,if_neg q],g.all⟩
instance [h:Qt s0 s](t:Int)(m:MsgT)[GdM m]:Qt s0 (D9 K s t m):=inferInstanceAs (Qt s0 (iM K s _))
instance [h:Qt s0 s](r:RecT):Qt s0 (eh K s r):=h.same rfl rfl rfl rfl rfl
instance [h:Qt s0 s](f:Int):Qt s0 (iK s f):=h.same rfl rfl rfl rfl rfl
instance [h:Qt s0 s](w:Int)(x:RowT):Qt s0 (F6 s w x):=h.same rfl rfl rfl rfl rfl
instance [h:Qt s0 s]:Qt s0 (gL s):=h.same rfl rfl rfl rfl rfl
instance [h:Qt s0 s](w:Int)(x:RowT):Qt s0 (iJ s w x):=h.same rfl rfl rfl rfl rfl
instance [h:Qt s0 s](w:Int):Qt s0 (l5 s w):=h.same rfl rfl rfl rfl rfl
instance [h:Qt s0 s](x:RowT):Qt s0 (uT s x 0):=⟨h.id,h.replies,h.ops, .inr rfl,h.o⟩
instance [Qt s0 s]:Qt s0 (fo K s):=inferInstanceAs (Qt s0 (iM K s _))
instance [Qt s0 s](y:RowT):Qt s0 (mD K s y):=inferInstanceAs (Qt s0 (iM K s _))
instance [Qt s0 s](v:ViewT):Qt s0 (nS K s v):=inferInstanceAs (Qt s0 (iM K s _))
instance [Qt s0 s](m:MsgT)[GdM m]:Qt s0 (jH K s m):=inferInstanceAs (Qt s0 (iM K s _))
instance [Qt s0 s](x:RowT):Qt s0 (eQ K s x 0).1:=by unfold eQ;split<;>exact inferInstance
instance [h:Qt s0 s]:Qt s0 (m8 K s):=by
 unfold m8;split
 · exact h
 split
 · exact inferInstance
 · exact h
instance [h:Qt s0 s](f:Int)(m:MsgT):Qt s0 (iX K s f m):=by
 unfold iX
 repeat' split
 all_goals exact inferInstance
instance [h:Qt s0 s](w:Int)(x:RowT):Qt s0 (lM s w x):=h.same rfl rfl rfl rfl rfl
instance [h:Qt s0 s](f w:Int)(y:RowT):Qt s0 (we s f w y):=h.same rfl rfl rfl rfl rfl
instance [h:Qt s0 s](f:Int)(m:MsgT):Qt s0 (fY K s f m):=by unfold fY;split<;>exact inferInstance
theorem pY[Qt s0 s]{f:MS δ→MS δ}(hf:Qt s0 (f s))(t:Int)(m:MsgT)[GdM m]:Qt s0 (nt K f s t m):=by unfold nt;split;exact hf;exact inferInstance
instance [h:Qt s0 s](f w:Int):Qt s0 (fy K s f w):=by
 unfold fy
 repeat' split
 · exact h
 · exact pY inferInstance _ _
 · exact inferInstance
 · exact pY inferInstance _ _
instance [h:Qt s0 s](i w:Int):Qt s0 (g8 K s i w):=by
 unfold g8;split
 · exact h
 · exact pY inferInstance _ _
instance [Qt s0 s](i:Int):Qt s0 (qn K s i):=by unfold qn;exact inferInstance
theorem zx: ∀(l:List Int) (s:MS δ),Qt s0 s→Qt s0 (fX K l s)
 | [],_,h=>h
 |i::l,s,h=>zx l (qn K s i) inferInstance
instance [h:Qt s0 s]:Qt s0 (rS K s):=zx _ _ h
instance [h:Qt s0 s](v:ViewT):Qt s0 (m6 s v):=h.same rfl rfl rfl rfl rfl
instance [h:Qt s0 s](v:ViewT):Qt s0 (ii K s v):=by
 unfold ii
 repeat' split
 all_goals exact inferInstance
instance [h:Qt s0 s](f:Int)(m:MsgT):Qt s0 (mE K s f m):=by unfold mE;exact inferInstance
instance [h:Qt s0 s](c:ChangeT):Qt s0 (lu K s c):=by
 unfold lu
 repeat' split
 all_goals exact inferInstance
instance [h:Qt s0 s](n:Int):Qt s0 (du s n):=h.same rfl rfl rfl rfl rfl
instance [h:Qt s0 s](v:VoteT):Qt s0 (lw s v):=h.same rfl rfl rfl rfl rfl
instance [h:Qt s0 s](a:AccT):Qt s0 (xV s a):=h.same rfl rfl rfl rfl rfl
instance [h:Qt s0 s](f:Int)(m:MsgT):Qt s0 (lx K f m s):=by
 unfold lx;split
 · exact h
 · split<;>exact inferInstance
theorem st[h:Qt s0 s]{f:MS δ→MS δ}(hf: ∀s:MS δ,Qt s0 s→Qt s0 (f s))(w:Int)(m:MsgT):Qt s0 (eP K f s w m):=by
 unfold eP
 repeat' split
 · exact inferInstance
 · exact h
 · exact h
 · exact hf _ inferInstance
instance [Qt s0 s](w:Int)(m:MsgT):Qt s0 (ru K s w m):=st (λ_ _=>inferInstance) w m
instance [h:Qt s0 s](w:Int)(m:MsgT):Qt s0 (nZ K w m s):=by unfold nZ;exact pY inferInstance _ _
instance [h:Qt s0 s](w:Int)(m:MsgT):Qt s0 (pe K w m s):=by
 unfold pe
 repeat' split
 all_goals exact inferInstance
instance [Qt s0 s](w:Int)(m:MsgT):Qt s0 (tD K s w m):=st (λ_ _=>inferInstance) w m
theorem uH[h:Qt s0 s]{f:MS δ→MsgT→MS δ}{m:MsgT}[GdM m](hf: ∀s:MS δ,Qt s0 s→Qt s0 (f s m)):Qt s0 (jP K f s m):=by
 unfold jP;split
 · exact hf _ inferInstance
 · exact inferInstance
instance [h:Qt s0 s](vt:VoteT):Qt s0 (kQ K s vt):=uH λ_ _=>inferInstance
instance [h:Qt s0 s](f:Int)(m:MsgT):Qt s0 (pP K f m s):=by
 unfold pP;split
 · exact h
 · split<;>exact inferInstance
instance [Qt s0 s](w:Int)(m:MsgT):Qt s0 (rz K s w m):=st (λ_ _=>inferInstance) w m
instance [h:Qt s0 s](w:Int)(m:MsgT)(a:AccT):Qt s0 (oo K w m a s):=by unfold oo;exact pY inferInstance _ _
instance [h:Qt s0 s](w:Int)(m:MsgT):Qt s0 (qu K w m s):=by
 unfold qu
 repeat' split
 all_goals exact inferInstance
instance [Qt s0 s](w:Int)(m:MsgT):Qt s0 (tE K s w m):=st (λ_ _=>inferInstance) w m
instance [h:Qt s0 s](vt:VoteT):Qt s0 (mT K s vt):=uH λ_ _=>inferInstance
instance [h:Qt s0 s](vt:VoteT):Qt s0 (n4 K s vt):=by unfold n4;split<;>exact inferInstance
instance [h:Qt s0 s](c:ChangeT):Qt s0 (rV K s c):=by unfold rV;exact inferInstance
instance [h:Qt s0 s](c:ChangeT):Qt s0 (co K s c).1:=by
 unfold co
 repeat' split
 all_goals exact inferInstance
instance [h:Qt s0 s]:Qt s0 (bY K s):=by unfold bY;split<;>exact inferInstance
instance [h:Qt s0 s]:Qt s0 (cf K s):=by unfold cf;split<;>exact inferInstance
instance [h:Qt s0 s]:Qt s0 (gf K s):=by unfold gf;split<;>exact inferInstance
instance [h:Qt s0 s]:Qt s0 (sC K s):=by
 unfold sC;split
 · exact h
 · repeat' split
   all_goals exact inferInstance
instance [h:Qt s0 s]:Qt s0 (iu K s):=by unfold iu;split<;>exact inferInstance
structure Rp(s0 s:MS δ)(l:List ReplyT):Prop where
 id:s.id=s0.id
 replies:s.replies=s0.replies++l
 o: ∃l,s.o=s0.o++l∧∀x∈l,0≤x.msg.kind∧x.msg.kind≤9
theorem Qt.rp(h:Qt s0 s):Rp s0 s []:=⟨h.id,by rw[h.replies,aP],h.o⟩
theorem Rp.then{l:List ReplyT}{t:MS δ}(h:Rp s0 s l)(g:Qt s t):Rp s0 t l:=by
 obtain⟨l1,e,hl⟩:=h.o;obtain⟨l2,e2,hl2⟩:=g.o;exact⟨g.id.trans h.id,g.replies.trans h.replies,l1++l2,by rw[e2,e,aS],λx hx=>(cG.1 hx).elim (hl x) (hl2 x)⟩
theorem Io(s:MS δ)(f:Int)(m:MsgT):Qt s (dP K s f m)∨(0<s.waits∧Rp s (dP K s f m) [⟨s.waits,0,0⟩]∧(dP K s f m).waits=0∧(dP K s f m).ops=s.ops):=by
 unfold dP;split
 · split
   · by_cases hw:0<s.waits
     · right
       have e:mf (gL (iK s f))= {dv (gL (iK s f)) s.waits 0 0 with waits:=0}:=yT (s:=gL (iK s f)) hw;have q:Qt (mf (gL (iK s f))) (lO K (iK s f)):=by unfold lO;exact inferInstance
       have hw0:(mf (gL (iK s f))).waits=0:=by rw[e]
       refine⟨hw,Rp.then (s:=mf (gL (iK s f))) ?_ q,(q.waits.elim (·.trans hw0) id),q.ops.trans (by rw[e];rfl)⟩;rw[e];exact⟨rfl,rfl,[],(aP _).symm,λ_ h=>by cases h⟩
     · left
       unfold lO;rw[yU (s:=gL (iK s f)) hw];exact inferInstance
   · left;exact inferInstance
 · left;exact inferInstance
theorem Aa(s:MS δ)(f:Int)(m:MsgT):Qt s (gg K s f m)∨(0<s.waits∧Rp s (gg K s f m) [⟨s.waits,0,0⟩]∧(gg K s f m).waits=0∧(gg K s f m).ops=s.ops):=by
 unfold gg
 by_cases h1:m.kind=1
 · rw[if_neg (by omega),if_pos h1];exact Io s f m
 · left
   rw[if_neg h1]
   repeat' split
   all_goals exact inferInstance
theorem F0(s:MS δ)(x:RowT)(op:Int):((eQ K s x op).2≠0∧Qt s (eQ K s x op).1)∨((eQ K s x op).2=0∧Rp s (eQ K s x op).1 []∧(eQ K s x op).1.waits=op∧(eQ K s x op).1.ops=s.ops):=by
 unfold eQ;split
 · rename_i h;exact .inl ⟨h,inferInstance⟩
 · right
   have q:Qt (uT (eh K s (kL x)) x op) (fo K (uT (eh K s (kL x)) x op)):=inferInstance;refine⟨rfl,Rp.then (s:=uT (eh K s (kL x)) x op) ⟨rfl,(aP _).symm,[],(aP _).symm,λ_ h=>by cases h⟩ q,?_,q.ops⟩;show(fo K _).waits=_;rfl
theorem zw(s:MS δ)(o:OpT):(∃e v,Rp s (bV K s o).1 [⟨fO (s.ops+1),e,v⟩]∧(bV K s o).2=e∧(bV K s o).1.ops=fO (s.ops+1)∧((bV K s o).1.waits=s.waits∨(bV K s o).1.waits=0))∨(Rp s (bV K s o).1 []∧(bV K s o).2=0∧(bV K s o).1.ops=fO (s.ops+1)∧(bV K s o).1.waits=fO (s.ops+1)):=by
 have e0:Rp s (bC s) []:=⟨rfl,(aP _).symm,[],(aP _).symm,λ_ h=>by cases h⟩
 have rep: ∀(t:MS δ) (op e v:Int),Qt (bC s) t→op=fO (s.ops+1)→Rp s (dv t op e v) [⟨fO (s.ops+1),e,v⟩]∧(dv t op e v).ops=fO (s.ops+1)∧((dv t op e v).waits=s.waits∨(dv t op e v).waits=0):=λt op e v h ho=>by
  subst ho;obtain⟨l,e1,hl⟩:=h.o;exact⟨⟨h.id,by show t.replies++_=_;rw[h.replies];rfl,l,e1,hl⟩,h.ops,h.waits⟩
 unfold bV;split
 · left
   unfold dV;split
   · obtain⟨a,b,c⟩:=rep (bC s) _ (fE (bC s) o.change) 0 inferInstance rfl
     exact⟨_,_,a,rfl,b,c⟩
   · split
     · obtain⟨a,b,c⟩:=rep (co K (bC s) o.change).1 _ (co K (bC s) o.change).2 0 inferInstance rfl
       exact⟨_,_,a,rfl,b,c⟩
     · obtain⟨a,b,c⟩:=rep (co K (bC s) o.change).1 _ 0 0 inferInstance rfl
       have q:Qt (dv (co K (bC s) o.change).1 (bC s).ops 0 0) (n4 K (dv (co K (bC s) o.change).1 (bC s).ops 0 0) (ju (bC s).view (eD (bC s)) o.change)):=inferInstance;exact⟨_,_,a.then q,rfl,q.ops.trans b,q.waits.elim (λw=>c.imp (w.trans ·) (w.trans ·)) .inr⟩
 · unfold nN
   split
   · left
     obtain⟨a,b,c⟩:=rep (bC s) _ (db (bC s) o).2.2 (db (bC s) o).2.1 inferInstance rfl;exact⟨_,_,a,rfl,b,c⟩
   · rcases F0 (K:=K) (bC s) (db (bC s) o).1 (bC s).ops with⟨h,q⟩| ⟨h,q,hw,ho⟩
     · rw[if_pos h]
       left;obtain⟨a,b,c⟩:=rep _ _ (eQ K (bC s) (db (bC s) o).1 (bC s).ops).2 0 q rfl;exact⟨_,_,a,rfl,b,c⟩
     · rw[if_neg (by omega)]
       right;obtain⟨l,e1,hl⟩:=q.o;exact⟨⟨q.id,q.replies,l,e1,hl⟩,rfl,ho,hw⟩
end
def Slot.pend(x:Slot):Nat:=match x.run with
 |some s=>if 0<s.waits then 1 else 0
 |none=>0
structure SlotOk(i n:Nat)(x:Slot):Prop where
 run: ∀s,x.run=some s→OkR KD s∧s.id=((i:Nat):Int)∧s.o=[]
 D:x.run=none→DkOk x.D
 reps:x.reps.length+x.pend≤n
structure CLOk(n:Nat)(a:CL):Prop where
 ms:a.ms.length=5
 W:a.W.length=25
 at': ∀i,i<5→SlotOk i n (a.at' i)
 way: ∀k,(a.W.getD k []).length≤8∧∀m∈a.W.getD k [],0< (dQ m).length
structure OkOp(o:OpT):Prop where
 change:OkCh o.change
 n:o.n≤9223372036854775807
theorem SlotOk.dk{i n:Nat}{x:Slot}(h:SlotOk i n x):DkOk x.dk:=by
 unfold Slot.dk;split
 · rename_i s q;exact(h.run s q).1.e.dk
 · rename_i q;exact h.D q
theorem SlotOk.more{i n k:Nat}{x:Slot}(h:SlotOk i n x)(hk:n≤k):SlotOk i k x:=⟨h.run,h.D,ou h.reps hk⟩
theorem CLOk.more{n k:Nat}{a:CL}(h:CLOk n a)(hk:n≤k):CLOk k a:=⟨h.ms,h.W,λi hi=>(h.at' i hi).more hk,h.way⟩
theorem um{ms:List Slot}{W:List (List MsgT)}{i:Nat}{x:Slot}(h:i<ms.length):(CL.mk (ms.set i x) W).at' i=x:=by
 unfold CL.at';rw[List.getD_eq_getElem?_getD,List.getElem?_set_self h];rfl
theorem u7{ms:List Slot}{W:List (List MsgT)}{i j:Nat}{x:Slot}(h:j≠i):(CL.mk (ms.set i x) W).at' j=ms.getD j .nil:=by
 unfold CL.at';rw[List.getD_eq_getElem?_getD,List.getElem?_set_ne (λe=>h e.symm),←List.getD_eq_getElem?_getD]
theorem CLOk.put{n k i:Nat}{a:CL}(h:CLOk n a)(hk:n≤k)(hi:i<5){x:Slot}(hx:SlotOk i k x){W:List (List MsgT)}(hW:W.length=25)(hw: ∀k,(W.getD k []).length≤8∧∀m∈W.getD k [],0< (dQ m).length):CLOk k ⟨a.ms.set i x,W⟩:=
 ⟨by show(a.ms.set i x).length=5;rw[cy];exact h.ms,hW,λj hj=>by
  by_cases q:j=i
  · subst q;rw[um (by rw[h.ms];exact hi)];exact hx
  · rw[u7 q];exact(h.at' j hj).more hk,hw⟩
theorem Kv{W:List (List MsgT)}(hw: ∀k,(W.getD k []).length≤8∧∀m∈W.getD k [],0< (dQ m).length)(f:Nat)(s:SaidT)(hs:0< (dQ s.msg).length): ∀k,((sM W f s).getD k []).length≤8∧∀m∈(sM W f s).getD k [],0< (dQ m).length:=λk=>by
 unfold sM;split
 · by_cases q:k=bA ((f:Nat):Int) s.to'
   · subst q
     by_cases hl:bA ((f:Nat):Int) s.to'<W.length
     · rw[List.getD_eq_getElem?_getD,List.getElem?_set_self hl]
       obtain⟨h1,h2⟩:=hw (bA ((f:Nat):Int) s.to');simp only[Option.getD_some];split
       · refine⟨by rw[af,gm];omega,λm hm=>?_⟩
         rcases cG.1 hm with hm|hm
         · exact h2 m hm
         · rw[dm]at hm;subst hm;exact hs
       · exact⟨h1,h2⟩
     · rw[nc (by omega)];exact hw _
   · rw[List.getD_eq_getElem?_getD,List.getElem?_set_ne (λe=>q e.symm),←List.getD_eq_getElem?_getD];exact hw k
 · exact hw k
theorem BX(f:Nat): ∀(l:List SaidT) {W:List (List MsgT)},(∀x∈l,0< (dQ x.msg).length)→(∀k,(W.getD k []).length≤8∧∀m∈W.getD k [],0< (dQ m).length)→∀k,((gD W f l).getD k []).length≤8∧∀m∈(gD W f l).getD k [],0< (dQ m).length
 | [],_,_,hw=>hw
 |s::l,W,hl,hw=>BX f l (W:=sM W f s) (λx hx=>hl x (gJ _ hx)) (Kv hw f s (hl s (ez ..)))
theorem Cb(W:List (List MsgT))(f:Nat)(s:SaidT):(sM W f s).length=W.length:=by unfold sM;split<;>simp
theorem sG(f:Nat): ∀(l:List SaidT) (W:List (List MsgT)),(gD W f l).length=W.length
 | [],_=>rfl
 |s::l,W=>(sG f l _).trans (Cb W f s)
theorem KT{s:MS LD}(h:OkR KD s):OkR KD s.hush:=⟨h.e,h.id,h.view,h.own,h.mir,h.book,h.last,h.acc,h.vote⟩
def owe(s:MS LD):Nat:=if 0<s.waits then 1 else 0
theorem CLOk.did{n i k:Nat}{a:CL}(h:CLOk n a)(hk:n≤k)(hi:i<5){s s':MS LD}(hs:(a.at' i).run=some s)(h':OkR KD s'){l:List ReplyT}(r:Rp s s' l)(hl:l.length+owe s'+n≤k+owe s):CLOk k (a.did i s'):=by
 obtain⟨h1,h2,h3⟩:=(h.at' i hi).run s hs;obtain⟨lo,e,hlo⟩:=r.o;rw[h3,bI]at e;refine h.put hk hi ⟨λt q=>?_,(λq=>by cases q),?_⟩ (by rw[sG];exact h.W) (BX i _ (λx hx=>MX (hlo x (by rw[←e];exact hx))) h.way)
 · obtain rfl:=cU q
   exact⟨KT h',r.id.trans h2,rfl⟩
 · have:=(h.at' i hi).reps
   unfold Slot.reps Slot.pend at this ⊢;rw[hs]at this;show((a.at' i).past++s'.replies).length+(if 0<s'.waits then 1 else 0)≤k;rw[r.replies];unfold owe at hl;simp only[af]at this ⊢;omega
theorem Qt.owe{s s':MS LD}(q:Qt s s'):Api.owe s'≤Api.owe s:=by
 unfold Api.owe;rcases q.waits with e|e
 · rw[e];exact aK _
 · rw[e];exact aN _
theorem Nu(s:MS LD):owe s≤1:=by unfold owe;split<;>omega
theorem CLOk.quiet{n i:Nat}{a:CL}(h:CLOk n a)(hi:i<5){s s':MS LD}(hs:(a.at' i).run=some s)(h':OkR KD s')(q:Qt s s'):CLOk n (a.did i s'):=
 h.did (aK _) hi hs h' q.rp (by have:=q.owe;show 0+_+n≤_;omega)
theorem CLOk.onway{n k:Nat}{a:CL}(h:CLOk n a){l:List MsgT}(hl:l.length≤8∧∀m∈l,0< (dQ m).length):CLOk n (a.way k l):=
 ⟨h.ms,by show(a.W.set k l).length=25;rw[cy];exact h.W,h.at',λj=>by
  show((a.W.set k l).getD j []).length≤8∧_
  by_cases q:j=k
  · subst q
    by_cases hk:j<a.W.length
    · show((a.W.set j l).getD j []).length≤8∧∀m∈(a.W.set j l).getD j [],_
      rw[List.getD_eq_getElem?_getD,List.getElem?_set_self hk];exact hl
    · show((a.W.set j l).getD j []).length≤8∧∀m∈(a.W.set j l).getD j [],_
      rw[nc (by omega)];exact h.way j
  · show((a.W.set k l).getD j []).length≤8∧∀m∈(a.W.set k l).getD j [],_
    rw[List.getD_eq_getElem?_getD,List.getElem?_set_ne (λe=>q e.symm),←List.getD_eq_getElem?_getD];exact h.way j⟩
theorem lL{w:Int}(h:gM w=true):w.toNat<5∧((w.toNat:Nat):Int)=w:=by
 have:0≤w∧w<5:=of_decide_eq_true h;omega
theorem Lb{n f t:Nat}{a:CL}(h:CLOk n a)(ht:t<5)(m:MsgT):CLOk n (tf a f t m).1:=by
 unfold tf;split
 · exact h
 · rename_i s hs
   split
   · exact h
   · split
     · obtain⟨h1,_,_⟩:=(h.at' t ht).run s hs
       have hm:=F3 (dQ m);rcases Aa (K:=KD) s ((f:Nat):Int) (iP (dQ m)).1 with q| ⟨hw,q,q2,_⟩
       · exact h.quiet ht hs inferInstance q
       · refine h.did (aK _) ht hs inferInstance q ?_
         unfold owe;rw[q2,if_pos hw];show 1+(if(0:Int)<0 then 1 else 0)+n≤n+1;rw[if_neg (by omega)];omega
     · exact h
theorem Mo{n:Nat}{a:CL}(h:CLOk n a)(o:OpT):CLOk n (oC a o).1:=by
 unfold oC;split
 · exact h
 · rename_i hv
   have hv:dK o.at' o.to'=true:=by simpa using hv
   have hw:=h.way (bA o.at' o.to');split
   · exact h
   · rename_i m l hl
     rw[hl]at hw;split
     · split
       · refine h.onway ⟨?_,λx hx=>?_⟩
         · rename_i q
           unfold Ie at q;have q:=of_decide_eq_true q;unfold DM;rw[if_pos q,af,gm];omega
         · unfold DM at hx
           split at hx
           · rcases cG.1 hx with hx|hx
             · exact hw.2 x hx
             · rw[dm]at hx;subst hx;exact hw.2 _ (ez ..)
           · exact hw.2 x hx
       · exact h
     · split
       · exact h
       · rename_i m2 l2 hl2
         have hlen:=kb (max o.n 0% ((m::l).length:Int)).toNat (m::l);have hmem:=λx=>(oG (x:=x) (max o.n 0% ((m::l).length:Int)).toNat (m::l)).1
         rw[hl2]at hlen hmem;have g:CLOk n (a.way (bA o.at' o.to') l2):=h.onway ⟨by simp only[an]at hlen hw;omega,λx hx=>hw.2 x (hmem x (gJ _ hx))⟩
         have ht:o.to'.toNat<5:=by
          unfold dK at hv;rw[ax,ax]at hv;exact(lL hv.1.2).1
         split
         · exact g
         · exact Lb g ht m2
theorem BF{n i:Nat}(hi:i<5){x:Slot}(h:SlotOk i n x):SlotOk i n (gW i x).1:=by
 unfold gW;split
 · exact h
 · rename_i hr
   have hD:=h.D hr;refine⟨λs q=>?_,λ_=>hD.open.1,?_⟩
   · obtain⟨h1,f⟩:=tI hi hD q
     exact⟨h1,f.id,f.o⟩
   · have:=h.reps
     unfold Slot.reps Slot.pend at this ⊢;rw[hr,aP]at this;show(x.past++match(cJ i x.D).1 with|some s=>s.replies|none=>[]).length+(match(cJ i x.D).1 with|some s=>if 0<s.waits then 1 else 0|none=>0)≤n;cases q:(cJ i x.D).1 with
     |some s=>
      have f:=(tI hi hD q).2;simp only[f.replies,f.waits,aP]
      simpa using this
     |none=>simpa using this
theorem M4{n i:Nat}{x:Slot}(h:SlotOk i n x){k:Int}(hk:k≤9223372036854775807):SlotOk i n (vn x k):=by
 unfold vn;split
 · rename_i s hs
   obtain⟨h1,h2,h3⟩:=h.run s hs;refine⟨λt q=>?_,(λq=>by cases q),?_⟩
   · obtain rfl:=cU q
     exact⟨⟨⟨h1.e.dk.arm k hk,h1.e.used,h1.e.cnt⟩,h1.id,h1.view,h1.own,h1.mir,h1.book,h1.last,h1.acc,h1.vote⟩,h2,h3⟩
   · have:=h.reps
     unfold Slot.reps Slot.pend at this ⊢;rw[hs]at this;exact this
 · rename_i hr
   refine⟨λt q=>?_,λ_=>(h.D hr).arm k hk,?_⟩
   · rw[show x.run=some t from q]at hr;cases hr
   · have:=h.reps
     unfold Slot.reps Slot.pend at this ⊢;rw[hr]at this;simp only[hr];exact this
theorem crash_ok{n i:Nat}{x:Slot}(h:SlotOk i n x)(mask torn cut:Int):SlotOk i n (nI x mask torn cut):=
 ⟨(λt q=>by cases q),λ_=>h.dk.crash mask torn cut,by
  have:=h.reps;show(x.reps++[]).length+0≤n
  rw[aP];omega⟩
theorem M1{n:Nat}{a:CL}(h:CLOk n a){o:OpT}(ho:OkOp o)(hk: ¬(0≤o.kind∧o.kind≤4)):CLOk n (zu a o).1:=by
 unfold zu;split
 · exact h
 rename_i hm;have hm:gM o.at'=true:=by simpa using hm
 have hi:=(lL hm).1;split
 · exact Mo h o
 split
 · unfold Bv
   split
   · exact h
   · rename_i s hs
     split
     · exact h
     · obtain⟨h1,_,_⟩:=(h.at' _ hi).run s hs
       exact h.quiet hi hs inferInstance inferInstance
 split
 · exact h.put (aK _) hi (M4 (h.at' _ hi) ho.n) h.W h.way
 split
 · exact h.put (aK _) hi (crash_ok (h.at' _ hi) _ _ _) h.W h.way
 split
 · exact h.put (aK _) hi (BF hi (h.at' _ hi)) h.W h.way
 · exact h
theorem Mf{n:Nat}{a:CL}(h:CLOk n a){o:OpT}(ho:OkOp o):CLOk (n+1) (zu a o).1:=by
 by_cases hk:0≤o.kind∧o.kind≤4
 · unfold zu
   split
   · exact h.more (by omega)
   rename_i hm;have hm:gM o.at'=true:=by simpa using hm
   have hi:=(lL hm).1;unfold C9;split
   · exact h.more (by omega)
   · rename_i s hs
     split
     · exact h.more (by omega)
     · obtain⟨h1,_,_⟩:=(h.at' _ hi).run s hs
       have:=ho.change;rcases zw (K:=KD) s o with⟨e,v,q,_,_,w⟩| ⟨q,_⟩
       · refine h.did (by omega) hi hs inferInstance q ?_
         have:owe (bV KD s o).1≤owe s:=by
          unfold owe;rcases w with e|e
          · rw[e];exact aK _
          · rw[e];exact aN _
         show 1+_+n≤_;omega
       · refine h.did (by omega) hi hs inferInstance q ?_
         have:=Nu (bV KD s o).1;show 0+_+n≤_;omega
 · exact(M1 h ho hk).more (by omega)
theorem new_ok:CLOk 0 CL.new:=by
 refine⟨by simp[CL.new],by simp[CL.new],λi hi=>?_,λk=>?_⟩
 · have e:CL.new.at' i=mu i:=by simp[CL.new,CL.at',List.getD_eq_getElem?_getD,hi]
   rw[e];exact BF hi ⟨(λs q=>by cases q),λ_=>DkOk.new,aK _⟩
 · have e:CL.new.W.getD k []=[]:=by
    show(List.replicate 25 ([]:List MsgT)).getD k []=[];rw[List.getD_eq_getElem?_getD,List.getElem?_replicate];split<;>rfl
   rw[e];exact⟨aN _,λm hm=>by cases hm⟩
theorem Ea: ∀(l:List OpT) {n:Nat} {a:CL},CLOk n a→(∀o∈l,OkOp o)→CLOk (n+l.length) (lD a l)
 | [],_,_,h,_=>h
 |o::l,n,a,h,ho=>by
  have:=Ea l (Mf h (ho o (ez ..))) λx hx=>ho x (gJ _ hx)
  rw[an,show n+(l.length+1)=n+1+l.length by omega];exact this
end Api
end

section
namespace Go.Proofs.YtfocodjhmkokpaaGreatDoor
open Go Leg Codec Api
theorem wP(ob:Nat)(ok:Bool):DoesD Tryz.prog 140 #[(.pointer (some ⟨ob,0,none⟩))] (.returning) (λ_=>True) [ah ob [(.bool (ok))] 4] (λe u' H=>e= .returned (.tuple #[])∧settle u'= .returning∧H=[ah ob [.bool ok] 4]):=by
 refine DoesD.recover2 (vs:=[(.pointer (some ⟨ob,0,none⟩))]) (n:=15) (u':= .returning) (rv:= .nilIface) Tryz.func140 rfl rfl rfl rfl rfl rfl rfl rfl rfl rfl rfl (λc0 cs hu=>by cases c0;simp only at hu;subst hu;rfl) (λw0 F c0 cs hF=>?_);refine ab (λK1 hK1=>?_);refine ab (λK2 hK2=>?_);refine ad ?_;refine dz (aa rfl) rfl rfl (cp rfl rfl) ?_;refine dz (aa rfl) rfl rfl (PV.nilNil rfl Tryz.underlying20 rfl) ?_;refine aq ?_;refine ac hK2 ?_;clear hK2;refine iS rfl ?_;refine ai ?_;refine ae ?_;clear hK1;refine aF (dd _) (λ_ s=>ak [0] rfl s) ?_;refine TE.retS0 rfl ?_;refine⟨rfl,rfl,?_⟩;rfl
theorem At(ob:Nat)(ok:Bool):DoesD Tryz.prog 140 #[(.pointer (some ⟨ob,0,none⟩))] (.panicking ij) (λ_=>True) [ah ob [(.bool (ok))] 4] (λe u' H=>e= .returned (.tuple #[])∧settle u'= .returning∧H=[ah ob [.bool false] 4]):=by
 refine DoesD.recover2 (vs:=[(.pointer (some ⟨ob,0,none⟩))]) (n:=15) (u':= .panicking [{v:=(.iface 221 (.agg #[])),recovered:=true}]) (rv:=(.iface 221 (.agg #[]))) Tryz.func140 rfl rfl rfl rfl rfl rfl rfl rfl rfl rfl rfl (λc0 cs hu=>by cases c0;simp only at hu;subst hu;rfl) (λw0 F c0 cs hF=>?_);refine ab (λK1 hK1=>?_);refine ab (λK2 hK2=>?_);refine ad ?_;refine dz (aa rfl) rfl rfl (cp rfl rfl) ?_;refine dz (aa rfl) rfl rfl (PV.ifaceNil rfl Tryz.underlying20 rfl) ?_;refine aq ?_;refine ac hK2 ?_;clear hK2;refine tl rfl ?_;refine aT ?_;refine ac hK1 ?_;clear hK1;refine ab (λK3 hK3=>?_);refine ab (λK4 hK4=>?_);refine ad ?_;refine dz (aa rfl) rfl rfl (cp rfl rfl) ?_;refine dz (aa rfl) rfl rfl (PV.assert rfl HV rfl rfl) ?_;refine dz (aa rfl) rfl rfl (cp rfl rfl) ?_;refine dz (aa rfl) rfl rfl (gT (vs:=[.agg #[], .bool true]) rfl rfl rfl) ?_;refine dz (aa rfl) rfl rfl (gT (vs:=[.agg #[], .bool true]) rfl rfl rfl) ?_;refine lQ (aa rfl) rfl rfl rfl O9 (λb2=>?_);change TL _ _ _ _ _ _ _ _ _ [ah b2 [] 221,ah ob [(.bool (ok))] 4];refine bP (vs:=[]) (i:=0) (H':=[ah b2 [] 221,ah ob [(.bool (ok))] 4]) (aa rfl) rfl rfl rfl rfl rfl Nr (by simp[Value.oneCell']) rfl rfl (KR rfl) rfl rfl ?_;refine dz (aa rfl) rfl rfl (pC rfl rfl) ?_;refine aq ?_;refine ac hK4 ?_;clear hK4;refine ab (λK5 hK5=>?_);refine ad ?_;refine dz (aa rfl) rfl rfl (cp rfl rfl) ?_;refine dz (aa rfl) rfl rfl (mB (r:=false) rfl rfl rfl) ?_;refine aq ?_
 refine ac hK5 ?_;clear hK5;refine tl rfl ?_;refine aT ?_;refine ac hK3 ?_;clear hK3;refine ad ?_;refine bw (i:=1) (H':=[ah b2 [] 221,ah ob [(.bool false)] 4]) (aa rfl) rfl rfl rfl rfl rfl k0 rfl rfl (lb rfl) rfl rfl ?_;refine aq ?_;refine aF (dd _) (λ_ s=>ak [1] rfl s) ?_;refine TE.endS0 rfl ?_;refine⟨rfl,rfl,?_⟩;exact rfl
theorem GO{fid:Nat}{caps:List Value}{x:Value}{bs:List UInt8}{C G:HP}{A:List UInt8→HP}{R:Hl→Prop}(hR: ∀F,R F→IsB x bs F)(hmono: ∀F g,R F→Dj g F→R (jn g F))(hN:Named Tryz.prog fid)
 (hc: ∀rb,DT fid ([Value.pointer (some ⟨rb,0,none⟩)]++caps).toArray R [ah rb [x] 219,C] (vz (λ_ H=>∃x' r,H=[ah rb [x'] 219,A r]∧Tail x bs x' r) (λc H=>c=ij∧∃x',H=[ah rb [x'] 219,G]))):
 DT 105 #[x, .func (.func fid) #[] caps.toArray] R [C] (dh (λv H=>(∃r,v= .bool (decide (r=[]))∧H=[A r])∨(v= .bool false∧H=[G]))):=by
 refine Leg.Does.bodyD (vs:=[x, .func (.func fid) #[] caps.toArray]) (n:=21) Tryz.func105 rfl rfl rfl (λw0 F hF=>sr λ_ J1=>XA z4 λb4=>?_);refine nx J1 (sr λ_ J2=>PS ?_);refine tp (PV.buildOne rfl Bc Pa rfl kH rfl (hR _ hF).one) ?_;refine XB λb8=>?_
 refine PS ?_;refine nx J2 (sr λ_ J3=>tp (Qb rfl rfl) ?_);refine TL.deferFn (aa rfl) rfl rfl rfl (nx J3 (ab λ_ J4=>sr λ_ J5=>PS ?_));refine tp (PV.funcNeqNil rfl Tryz.underlying193 rfl) ?_;refine nx J5 (CY (ad (P2 ?_)));refine TL.callPv (aa rfl) rfl rfl rfl rfl hN rfl (hc b8) (λ_ s=>aB [0,1] rfl s) (Nd hmono hF) (λcP HP hP=>?_) (λvR HR hR'=>?_);obtain⟨rfl,x',rfl⟩:=hP;refine ay ?_;intro a w fr sm m;refine rK (b:=b4) (e:=4) (A:=[ah b4 [(.bool false)] 4]) (B:=[ah b8 [x'] 219,G]) (H':=[G]) fr sm m (by simp) I8 (At b4 _) (λ_ s=>aB [2] rfl s) (λ_ _ _=>trivial) rfl rfl Y4 rfl (λH1 h1=>?_);subst h1;refine⟨[.bool false], .bool false,dR 0 rfl rfl,rfl,λ_ s=>ak [2] rfl s,?_⟩;exact .inr ⟨rfl,rfl⟩;obtain⟨x',r,rfl,htl⟩:=hR';have hB:=htl F (hR _ hF);rcases hB with⟨rfl,rfl⟩| ⟨b,off,cap,cs,T,z,rfl,hB1,hB2,hB3,hB4⟩
 refine nx J4 (sr λ_ J6=>P2 ?_);refine FA 0 Bc kH ?_;refine LA 0 fB ?_;refine tp (qw rfl fB rfl) ?_;refine PS ?_;refine S0 2 k0 ?_;refine nx J6 (ai ?_);intro a w fr sm m;refine rK (b:=b4) (e:=4) (A:=[ah b4 [(.bool true)] 4]) (B:=[ah b8 [(.slice none 0 0)] 219,(A [])]) (H':=[(A [])]) fr sm m (by simp) I8 (wP b4 _) (λ_ s=>aB [2] rfl s) (λ_ _ _=>trivial) rfl rfl Y4 rfl (λH1 h1=>?_);subst h1;refine⟨[.bool true], .bool true,dR 0 rfl rfl,rfl,λ_ s=>ak [2] rfl s,?_⟩;exact .inl ⟨[],rfl,rfl⟩;refine nx J4 (sr λ_ J7=>P2 ?_);refine FA 0 Bc kH ?_;refine LA 0 fB ?_;refine tp (qw rfl fB rfl) ?_;refine PS ?_;refine S0 2 k0 ?_;refine nx J7 (ai ?_);intro a w fr sm m;refine rK (b:=b4) (e:=4) (A:=[ah b4 [(.bool (decide (((r.length:Nat):Int)=0)))] 4]) (B:=[ah b8 [(.slice (some ⟨b,off,none⟩) (r.length) (cap))] 219,(A r)]) (H':=[(A r)]) fr sm m (by simp) I8 (wP b4 _) (λ_ s=>aB [2] rfl s) (λ_ _ _=>trivial) rfl rfl Y4 rfl (λH1 h1=>?_);subst h1;refine⟨[.bool (decide (((r.length:Nat):Int)=0))], .bool (decide (((r.length:Nat):Int)=0)),dR 0 rfl rfl,rfl,λ_ s=>ak [2] rfl s,?_⟩;exact .inl ⟨r,by congr 1;rw[decide_eq_decide];cases r<;>simp<;>omega,rfl⟩
theorem y9{fid:Nat}{caps:List Value}{x:Value}{bs:List UInt8}{α β:Type}{C:List HP}{A:α→List HP}{G:β→List HP}{φ:α→List UInt8→Prop}{ψ:β→Prop}{R:Hl→Prop}(hR: ∀F,R F→IsB x bs F)(hmono: ∀F g,R F→Dj g F→R (jn g F))(hN:Named Tryz.prog fid)
 (hc: ∀rb,DT fid ([Value.pointer (some ⟨rb,0,none⟩)]++caps).toArray R (ah rb [x] 219::C) (vz (λ_ H=>∃x' r a,H=ah rb [x'] 219::A a∧Tail x bs x' r∧φ a r) (λc H=>c=ij∧∃x' b,H=ah rb [x'] 219::G b∧ψ b))):
 DT 105 #[x, .func (.func fid) #[] caps.toArray] R C (dh (λv H=>(∃r a,v= .bool (decide (r=[]))∧H=A a∧φ a r)∨(∃b,v= .bool false∧H=G b∧ψ b))):=by
 have h1:=GO (C:=all C) (G:=λh=>∃b,ψ b∧bD (G b) h) (A:=λr h=>∃a,φ a r∧bD (A a) h) hR hmono hN λrb=>
  (hc rb).conv (post':=vz (λ_ H=>∃x' r,H=[ah rb [x'] 219,λh=>∃a,φ a r∧bD (A a) h]∧Tail x bs x' r) (λc H=>c=ij∧∃x',H=[ah rb [x'] 219,λh=>∃b,ψ b∧bD (G b) h]))
   (λh s=>wz s λ_=>Li)
   (λe H F w hp m=>by
    cases e with
    |returned v=>
     obtain⟨x',r,a,rfl,ht,hf⟩:=hp;exact⟨[ah rb [x'] 219,λh=>∃a,φ a r∧bD (A a) h],m.mono λh s=>wz s λh s=>rB ⟨a,hf,s⟩,x',r,rfl,ht⟩
    |panicked c=>
     obtain⟨hc,x',b,rfl,hf⟩:=hp;exact⟨[ah rb [x'] 219,λh=>∃b,ψ b∧bD (G b) h],m.mono λh s=>wz s λh s=>rB ⟨b,hf,s⟩,hc,x',rfl⟩
    |outgrown=>exact hp.elim)
 refine h1.conv (λh s=>Kp s) λe H F w hp m=>?_
 cases e with
 |returned v=>
  rcases hp with⟨r,hv,rfl⟩| ⟨hv,rfl⟩
  · obtain⟨h,d,e,g1,g2,d',rfl,⟨a,hf,s⟩,_⟩:=m
    exact⟨A a,⟨_,d,e,lB _ s d'⟩, .inl ⟨r,a,hv,rfl,hf⟩⟩
  · obtain⟨h,d,e,g1,g2,d',rfl,⟨b,hf,s⟩,_⟩:=m
    exact⟨G b,⟨_,d,e,lB _ s d'⟩, .inr ⟨b,hv,rfl,hf⟩⟩
 |panicked c=>exact hp.elim
 |outgrown=>exact hp.elim
theorem As(rb:Nat)(v:Value)(bs:List UInt8):
 DT 120 #[(.pointer (some ⟨rb,0,none⟩))] (IsB v bs) [ah rb [v] 219] (nK 219 ij (λmb:MsgT×Bool=> .tuple #[.agg (ints mb.1.flat).toArray, .bool mb.2]) cL v bs rb):=by
 refine BD 85 Tryz.func120 rfl rfl rfl λw0 F hF=>sr λ_ J1=>XZ mn (ints MsgT.zero.flat) λb2=>?_
 refine PS ?_;refine nx J1 (sr λ_ J2=>PS ?_);refine CP jd (cK rb v bs (10)) (SM [1]) (λ_ d _=>(hF).more d) (λcP HP hP=>?_) (λvR HR hR=>?_);obtain⟨vP,rfl,rfl,hpP⟩:=hP;refine ay (WK [0] (aU ?_));exact⟨_,rfl,rfl,by simp[cL,bU hpP, *]⟩;obtain⟨a1,r1,v1,rfl,rfl,hp1,ht1⟩:=hR;have hf1:=ht1 _ hF;refine tp (ll MsgT.zero (MsgT.mk a1 0 RowT.zero 0 0 BallotT.zero BallotT.zero ChangeT.zero ViewT.zero) [(0,[Value.int .i64 a1])] bd bq (g:=MsgT.sg)) ?_;refine XZ mn (ints MsgT.zero.flat) λb4=>?_
 refine SW 0 cd aG ?_;refine nx J2 (ab λ_ J3=>sr λ_ J4=>FA 0 bd aR ?_);refine LT 0 Y3 (.int .i64 (a1)) ?_ (hc:=by exact eR _ rfl);refine nx J4 (au (ab λ_ J5=>e4 (α:=Unit) (λ_u=>True) (λ_u=>[(0,(.pointer (some ⟨rb,0,none⟩))),(2,(.pointer (some ⟨b2,0,none⟩))),(3,(.bool false)),(4,(.pointer (some ⟨b4,0,none⟩))),(9,(.int .i64 (a1))),(10,(.bool ((fb a1))))]) (λ_u=>[ah b4 (ints (MsgT.mk a1 0 RowT.zero 0 0 BallotT.zero BallotT.zero ChangeT.zero ViewT.zero).flat) 163,ah rb [v1] 219,ah b2 (ints MsgT.zero.flat) 163]) (λ_u hinv=>?_) (λtl5=>?_)));have _:=hinv;refine ac J5 (TC.cond rfl (λh10=>?_) (λh10=>?_));refine sr λ_ J6=>PS ?_
 refine CP jd (cK rb v1 r1 (5)) (SM [1]) (λ_ d _=>(hf1).more d) (λcP HP hP=>?_) (λvR HR hR=>?_);obtain⟨vP,rfl,rfl,hpP⟩:=hP;refine ay (aO (ay (WK [0] (aU ?_))));exact⟨_,rfl,rfl,by simp[cL,aD hp1,bU hpP,h10, *]⟩;obtain⟨a2,r2,v2,rfl,rfl,hp2,ht2⟩:=hR;have hf2:=ht2 _ hf1;refine FA 1 bd aR ?_;refine SS 1 aR (aG _) (MsgT.set_whose _ rfl _) ?_;refine nx J6 (sr λ_ J7=>PS ?_);refine CP I7 (tM rb v2 r2) ID (λ_ d _=>(hf2).more d) (λcP HP hP=>?_) (λvR HR hR=>?_);obtain⟨vP,rfl,rfl,hpP⟩:=hP;refine ay (aO (ay (WK [0] (aU ?_))));exact⟨_,rfl,rfl,by simp[cL,aD hp1,aD hp2,bU hpP,h10, *]⟩;obtain⟨a3,r3,v3,rfl,rfl,hp3,ht3⟩:=hR;have hf3:=ht3 _ hf2;refine FA 2 bd ba ?_;refine SP 1 ba aj aG MsgT.wp_row ?_;refine nx J7 (ab λ_ J8=>D1 1 mixed ?_);refine LY 0 bd cd aG ?_;refine FD 1 2 bd ba ?_;refine ta 2 rfl (aM (vs:=ints a3.flat) rfl dU rfl ba rfl (λ_ h=>h.2.1) (aj a3) (ma (MsgT.mk a1 a2 a3 0 0 BallotT.zero BallotT.zero ChangeT.zero ViewT.zero) 0 rfl (by decide) (whole (aj a3)))) ?_;refine AL 3 ?_;refine CE IT (jO a3 (An hp3)) ID ?_;refine EN (AL 4 ?_);refine SW 2 cd aG ?_;refine EN (PD 5 ?_);refine DN (ac J8 (ai (aH (ae (RT 2 [0] bd cd (aG _) ?_)))));exact⟨((MsgT.mk a1 a2 a3 0 0 BallotT.zero BallotT.zero ChangeT.zero ViewT.zero),(gY a3)),_,_,rfl,rfl,by simp[cL,pr,aD hp1,aD hp2,aD hp3,h10,MsgT.zero,RecT.zero, *],(ht1.trans (ht2.trans ht3))⟩;refine sr λ_ J9=>PS ?_
 refine ao ?_ ?_<;>intro h25;refine PS ?_;refine nx J9 (CY (ad (PS ?_)));refine CP qb (jc rb v1 r1) (SM [1]) (λ_ d _=>(hf1).more d) (λcP HP hP=>?_) (λvR HR hR=>?_);obtain⟨vP,rfl,rfl,hpP⟩:=hP;refine aO (ay (WK [0] (aU ?_)));exact⟨_,rfl,rfl,by simp[cL,fb,fi,aD hp1,bU hpP,h10,h25, *]⟩;obtain⟨a2,r2,v2,rfl,rfl,hp2,ht2⟩:=hR;have hf2:=ht2 _ hf1;refine FA 176 bd aR ?_;refine SS 1 aR (aG _) (MsgT.set_version _ rfl _) ?_;refine aq (ag (ac J3 (sr λ_ J10=>LW 1 bd cd aG ?_)));refine SW 2 cd aG ?_;refine PS ?_;refine nx J10 (ai (RT 2 [0] bd cd (aG _) ?_));exact⟨((MsgT.mk a1 0 RowT.zero a2 0 BallotT.zero BallotT.zero ChangeT.zero ViewT.zero),true),_,_,rfl,rfl,by simp[cL,fb,fi,pr,aD hp1,aD hp2,h10,h25,MsgT.zero,RecT.zero, *],(ht1.trans ht2)⟩;refine PS ?_;refine nx J9 (CN (ab λ_ J11=>e4 (α:=Unit) (λ_u=>True) (λ_u=>[(0,(.pointer (some ⟨rb,0,none⟩))),(2,(.pointer (some ⟨b2,0,none⟩))),(3,(.bool false)),(4,(.pointer (some ⟨b4,0,none⟩))),(9,(.int .i64 (a1))),(29,(.bool ((fi a1))))]) (λ_u=>[ah b4 (ints (MsgT.mk a1 0 RowT.zero 0 0 BallotT.zero BallotT.zero ChangeT.zero ViewT.zero).flat) 163,ah rb [v1] 219,ah b2 (ints MsgT.zero.flat) 163]) (λ_u hinv=>?_) (λtl11=>?_)));have _:=hinv;refine ac J11 (TC.cond rfl (λh29=>?_) (λh29=>?_));refine sr λ_ J12=>PS ?_
 refine CP qb (jc rb v1 r1) (SM [1]) (λ_ d _=>(hf1).more d) (λcP HP hP=>?_) (λvR HR hR=>?_);obtain⟨vP,rfl,rfl,hpP⟩:=hP;refine ay (aO (ay (WK [0] (aU ?_))));exact⟨_,rfl,rfl,by simp[cL,aD hp1,bU hpP,h10,h25,h29, *]⟩;obtain⟨a2,r2,v2,rfl,rfl,hp2,ht2⟩:=hR;have hf2:=ht2 _ hf1;refine FA 177 bd aR ?_;refine SS 1 aR (aG _) (OP _ rfl _) ?_;refine nx J12 (ad (PS ?_));refine CP zg (jt rb v2 r2) ID (λ_ d _=>(hf2).more d) (λcP HP hP=>?_) (λvR HR hR=>?_);obtain⟨vP,rfl,rfl,hpP⟩:=hP;refine aO (ay (WK [0] (aU ?_)));exact⟨_,rfl,rfl,by simp[cL,aD hp1,aD hp2,bU hpP,h10,h25,h29, *]⟩;obtain⟨a3,r3,v3,rfl,rfl,hp3,ht3⟩:=hR;have hf3:=ht3 _ hf2;refine FA 178 bd cv ?_;refine SP 1 cv ap aG OO ?_;refine aq (ag (ac J3 (sr λ_ J13=>LW 1 bd cd aG ?_)));refine SW 2 cd aG ?_;refine PS ?_;refine nx J13 (ai (RT 2 [0] bd cd (aG _) ?_));exact⟨((MsgT.mk a1 0 RowT.zero 0 a2 a3 BallotT.zero ChangeT.zero ViewT.zero),true),_,_,rfl,rfl,by simp[cL,pr,aD hp1,aD hp2,aD hp3,h10,h25,h29,MsgT.zero,RecT.zero, *],(ht1.trans (ht2.trans ht3))⟩;refine sr λ_ J14=>PS ?_
 refine ao ?_ ?_<;>intro h39;refine PS ?_;refine nx J14 (CY (sr λ_ J15=>PS ?_));refine CP qb (jc rb v1 r1) (SM [1]) (λ_ d _=>(hf1).more d) (λcP HP hP=>?_) (λvR HR hR=>?_);obtain⟨vP,rfl,rfl,hpP⟩:=hP;refine ay (aO (ay (WK [0] (aU ?_))));exact⟨_,rfl,rfl,by simp[cL,fb,fi,aD hp1,bU hpP,h10,h25,h29,h39, *]⟩;obtain⟨a2,r2,v2,rfl,rfl,hp2,ht2⟩:=hR;have hf2:=ht2 _ hf1;refine FA 177 bd aR ?_;refine SS 1 aR (aG _) (OP _ rfl _) ?_;refine nx J15 (sr λ_ J16=>PS ?_);refine CP zg (jt rb v2 r2) ID (λ_ d _=>(hf2).more d) (λcP HP hP=>?_) (λvR HR hR=>?_);obtain⟨vP,rfl,rfl,hpP⟩:=hP;refine ay (aO (ay (WK [0] (aU ?_))));exact⟨_,rfl,rfl,by simp[cL,fb,fi,aD hp1,aD hp2,bU hpP,h10,h25,h29,h39, *]⟩;obtain⟨a3,r3,v3,rfl,rfl,hp3,ht3⟩:=hR;have hf3:=ht3 _ hf2;refine FA 178 bd cv ?_;refine SP 1 cv ap aG OO ?_;refine nx J16 (sr λ_ J17=>PS ?_);refine CP zg (jt rb v3 r3) ID (λ_ d _=>(hf3).more d) (λcP HP hP=>?_) (λvR HR hR=>?_);obtain⟨vP,rfl,rfl,hpP⟩:=hP;refine ay (aO (ay (WK [0] (aU ?_))));exact⟨_,rfl,rfl,by simp[cL,fb,fi,aD hp1,aD hp2,aD hp3,bU hpP,h10,h25,h29,h39, *]⟩;obtain⟨a4,r4,v4,rfl,rfl,hp4,ht4⟩:=hR;have hf4:=ht4 _ hf3;refine FA 180 bd cv ?_;refine SP 1 cv ap aG MsgT.wp_had ?_;refine nx J17 (ad (PS ?_));refine CP I6 (oP rb v4 r4) ID (λ_ d _=>(hf4).more d) (λcP HP hP=>?_) (λvR HR hR=>?_);obtain⟨vP,rfl,rfl,hpP⟩:=hP
 refine aO (ay (WK [0] (aU ?_)));exact⟨_,rfl,rfl,by simp[cL,fb,fi,aD hp1,aD hp2,aD hp3,aD hp4,bU hpP,h10,h25,h29,h39, *]⟩;obtain⟨a5,r5,v5,rfl,rfl,hp5,ht5⟩:=hR;have hf5:=ht5 _ hf4;refine FA 182 bd fp ?_;refine SP 1 fp aI aG ON ?_;refine aq (ag (ac J3 (sr λ_ J18=>LW 1 bd cd aG ?_)));refine SW 2 cd aG ?_;refine PS ?_;refine nx J18 (ai (RT 2 [0] bd cd (aG _) ?_));exact⟨((MsgT.mk a1 0 RowT.zero 0 a2 a3 a4 a5 ViewT.zero),true),_,_,rfl,rfl,by simp[cL,fb,fi,pr,aD hp1,aD hp2,aD hp3,aD hp4,aD hp5,h10,h25,h29,h39,MsgT.zero,RecT.zero, *],(ht1.trans (ht2.trans (ht3.trans (ht4.trans ht5))))⟩;refine PS ?_;refine nx J14 (CN (sr λ_ J19=>PS ?_));refine ao ?_ ?_<;>intro h53;refine PS ?_;refine nx J19 (CY (sr λ_ J20=>PS ?_));refine CP qb (jc rb v1 r1) (SM [1]) (λ_ d _=>(hf1).more d) (λcP HP hP=>?_) (λvR HR hR=>?_);obtain⟨vP,rfl,rfl,hpP⟩:=hP;refine ay (aO (ay (WK [0] (aU ?_))));exact⟨_,rfl,rfl,by simp[cL,fb,fi,aD hp1,bU hpP,h10,h25,h29,h39,h53, *]⟩;obtain⟨a2,r2,v2,rfl,rfl,hp2,ht2⟩:=hR;have hf2:=ht2 _ hf1;refine FA 177 bd aR ?_;refine SS 1 aR (aG _) (OP _ rfl _) ?_;refine nx J20 (sr λ_ J21=>PS ?_);refine CP zg (jt rb v2 r2) ID (λ_ d _=>(hf2).more d) (λcP HP hP=>?_) (λvR HR hR=>?_);obtain⟨vP,rfl,rfl,hpP⟩:=hP;refine ay (aO (ay (WK [0] (aU ?_))));exact⟨_,rfl,rfl,by simp[cL,fb,fi,aD hp1,aD hp2,bU hpP,h10,h25,h29,h39,h53, *]⟩
 obtain⟨a3,r3,v3,rfl,rfl,hp3,ht3⟩:=hR;have hf3:=ht3 _ hf2;refine FA 178 bd cv ?_;refine SP 1 cv ap aG OO ?_;refine nx J21 (ad (PS ?_));refine CP I6 (oP rb v3 r3) ID (λ_ d _=>(hf3).more d) (λcP HP hP=>?_) (λvR HR hR=>?_);obtain⟨vP,rfl,rfl,hpP⟩:=hP;refine aO (ay (WK [0] (aU ?_)));exact⟨_,rfl,rfl,by simp[cL,fb,fi,aD hp1,aD hp2,aD hp3,bU hpP,h10,h25,h29,h39,h53, *]⟩;obtain⟨a4,r4,v4,rfl,rfl,hp4,ht4⟩:=hR;have hf4:=ht4 _ hf3;refine FA 182 bd fp ?_;refine SP 1 fp aI aG ON ?_;refine aq (ag (ac J3 (sr λ_ J22=>LW 1 bd cd aG ?_)));refine SW 2 cd aG ?_;refine PS ?_;refine nx J22 (ai (RT 2 [0] bd cd (aG _) ?_));exact⟨((MsgT.mk a1 0 RowT.zero 0 a2 a3 BallotT.zero a4 ViewT.zero),true),_,_,rfl,rfl,by simp[cL,fb,fi,pr,aD hp1,aD hp2,aD hp3,aD hp4,h10,h25,h29,h39,h53,MsgT.zero,RecT.zero, *],(ht1.trans (ht2.trans (ht3.trans ht4)))⟩;refine PS ?_;refine nx J19 (CN (sr λ_ J23=>PS ?_));refine ao ?_ ?_<;>intro h64;refine PS ?_;refine nx J23 (CY (sr λ_ J24=>PS ?_));refine CP I5 (rD rb v1 r1) (SM [1]) (λ_ d _=>(hf1).more d) (λcP HP hP=>?_) (λvR HR hR=>?_);obtain⟨vP,rfl,rfl,hpP⟩:=hP;refine ay (aO (ay (WK [0] (aU ?_))));exact⟨_,rfl,rfl,by simp[cL,fb,fi,aD hp1,bU hpP,h10,h25,h29,h39,h53,h64, *]⟩;obtain⟨a2,r2,v2,rfl,rfl,hp2,ht2⟩:=hR;have hf2:=ht2 _ hf1;refine FA 185 bd bf ?_;refine SP 1 bf am aG MsgT.wp_view ?_;refine nx J24 (ab λ_ J25=>D1 1 mixed ?_)
 refine LY 0 bd cd aG ?_;refine FD 1 185 bd bf ?_;refine ta 2 rfl (aM (vs:=ints a2.flat) rfl eE rfl bf rfl (λ_ h=>h.2.1) (am a2) (vC (MsgT.mk a1 0 RowT.zero 0 0 BallotT.zero BallotT.zero ChangeT.zero a2) 0 rfl (by decide) (whole (am a2)))) ?_;refine AL 3 ?_;refine CE I4 (mJ a2 (sv hp2)) ID ?_;refine EN (AL 4 ?_);refine SW 2 cd aG ?_;refine EN (PD 5 ?_);refine DN (ac J25 (ai (aH (ae (RT 2 [0] bd cd (aG _) ?_)))));exact⟨((MsgT.mk a1 0 RowT.zero 0 0 BallotT.zero BallotT.zero ChangeT.zero a2),(kM a2)),_,_,rfl,rfl,by simp[cL,fb,fi,pr,aD hp1,aD hp2,h10,h25,h29,h39,h53,h64,MsgT.zero,RecT.zero, *],(ht1.trans ht2)⟩;refine PS ?_;refine nx J23 (CN (sr λ_ J26=>PS ?_));refine ao ?_ ?_<;>intro h73;refine PS ?_;refine nx J26 (CY (sr λ_ J27=>PS ?_));refine CP jd (cK rb v1 r1 (5)) (SM [1]) (λ_ d _=>(hf1).more d) (λcP HP hP=>?_) (λvR HR hR=>?_);obtain⟨vP,rfl,rfl,hpP⟩:=hP;refine ay (aO (ay (WK [0] (aU ?_))));exact⟨_,rfl,rfl,by simp[cL,fb,fi,aD hp1,bU hpP,h10,h25,h29,h39,h53,h64,h73, *]⟩;obtain⟨a2,r2,v2,rfl,rfl,hp2,ht2⟩:=hR;have hf2:=ht2 _ hf1;refine FA 1 bd aR ?_;refine SS 1 aR (aG _) (MsgT.set_whose _ rfl _) ?_;refine nx J27 (sr λ_ J28=>PS ?_);refine CP I5 (rD rb v2 r2) ID (λ_ d _=>(hf2).more d) (λcP HP hP=>?_) (λvR HR hR=>?_);obtain⟨vP,rfl,rfl,hpP⟩:=hP;refine ay (aO (ay (WK [0] (aU ?_))))
 exact⟨_,rfl,rfl,by simp[cL,fb,fi,aD hp1,aD hp2,bU hpP,h10,h25,h29,h39,h53,h64,h73, *]⟩;obtain⟨a3,r3,v3,rfl,rfl,hp3,ht3⟩:=hR;have hf3:=ht3 _ hf2;refine FA 185 bd bf ?_;refine SP 1 bf am aG MsgT.wp_view ?_;refine nx J28 (ab λ_ J29=>D1 1 mixed ?_);refine LY 0 bd cd aG ?_;refine FD 1 185 bd bf ?_;refine ta 2 rfl (aM (vs:=ints a3.flat) rfl eE rfl bf rfl (λ_ h=>h.2.1) (am a3) (vC (MsgT.mk a1 a2 RowT.zero 0 0 BallotT.zero BallotT.zero ChangeT.zero a3) 0 rfl (by decide) (whole (am a3)))) ?_;refine AL 3 ?_;refine CE I4 (mJ a3 (sv hp3)) ID ?_;refine EN (AL 4 ?_);refine SW 2 cd aG ?_;refine EN (PD 5 ?_);refine DN (ac J29 (ai (aH (ae (RT 2 [0] bd cd (aG _) ?_)))));exact⟨((MsgT.mk a1 a2 RowT.zero 0 0 BallotT.zero BallotT.zero ChangeT.zero a3),(kM a3)),_,_,rfl,rfl,by simp[cL,fb,fi,pr,aD hp1,aD hp2,aD hp3,h10,h25,h29,h39,h53,h64,h73,MsgT.zero,RecT.zero, *],(ht1.trans (ht2.trans ht3))⟩;refine PS ?_;refine nx J26 (CN (aT (ag (ac J3 (sr λ_ J30=>LW 0 bd cd aG ?_)))));refine SW 2 cd aG ?_;refine PS ?_;refine nx J30 (ai (RT 2 [1] bd cd (aG _) ?_));exact⟨((MsgT.mk a1 0 RowT.zero 0 0 BallotT.zero BallotT.zero ChangeT.zero ViewT.zero),true),_,_,rfl,rfl,by simp[cL,pr,aD hp1,h10,h25,h29,h39,h53,h64,h73,MsgT.zero,RecT.zero, *],ht1⟩;refine sr λ_ J31=>P2 ?_
 refine ao ?_ ?_<;>intro h29;refine nx J31 (CY (aT ?_))
 exact aF
  (aL (aL (aL (aL (aL (bJ rfl (by simp[fi, *]) SB))))))
  (λ_ s=>s)
  (tl11 (():Unit) trivial)
 refine nx J31 (CN (ad (PS ?_)));refine ao ?_ ?_<;>intro h31;refine PS ?_;refine aq ?_
 exact aF
  (aL (aL (aL (aL (aL (bJ rfl (by simp[fi, *]) SB))))))
  (λ_ s=>s)
  (tl11 (():Unit) trivial)
 refine PS ?_;refine aq ?_
 exact aF
  (aL (aL (aL (aL (aL (bJ rfl (by simp[fi, *]) SB))))))
  (λ_ s=>s)
  (tl11 (():Unit) trivial)
 refine sr λ_ J32=>P2 ?_
 refine ao ?_ ?_<;>intro h10;refine nx J32 (CY (aT ?_))
 exact aF
  (aL (aL (aL (aL (aL (bJ rfl (by simp[fb, *]) SB))))))
  (λ_ s=>s)
  (tl5 (():Unit) trivial)
 refine nx J32 (CN (sr λ_ J33=>P2 ?_));refine ao ?_ ?_<;>intro h10;refine nx J33 (CY (aT ?_))
 exact aF
  (aL (aL (aL (aL (aL (bJ rfl (by simp[fb, *]) SB))))))
  (λ_ s=>s)
  (tl5 (():Unit) trivial)
 refine nx J33 (CN (ad (PS ?_)));refine ao ?_ ?_<;>intro h13;refine PS ?_;refine aq ?_
 exact aF
  (aL (aL (aL (aL (aL (bJ rfl (by simp[fb, *]) SB))))))
  (λ_ s=>s)
  (tl5 (():Unit) trivial)
 refine PS ?_;refine aq ?_
 exact aF
  (aL (aL (aL (aL (aL (bJ rfl (by simp[fb, *]) SB))))))
  (λ_ s=>s)
  (tl5 (():Unit) trivial)
theorem Ar(rb:Nat)(v:Value)(bs:List UInt8):
 DT 107 #[(.pointer (some ⟨rb,0,none⟩))] (IsB v bs) [ah rb [v] 219] (nK 219 ij (λmb:RecT×Bool=> .tuple #[.agg (ints mb.1.flat).toArray, .bool mb.2]) dw v bs rb):=by
 refine BD 65 Tryz.func107 rfl rfl rfl λw0 F hF=>sr λ_ J1=>XZ H5 (ints RecT.zero.flat) λb2=>?_
 refine PS ?_;refine nx J1 (sr λ_ J2=>PS ?_);refine CP jd (cK rb v bs (6)) (SM [1]) (λ_ d _=>(hF).more d) (λcP HP hP=>?_) (λvR HR hR=>?_);obtain⟨vP,rfl,rfl,hpP⟩:=hP;refine ay (WK [0] (aU ?_));exact⟨_,rfl,rfl,by simp[dw,fb,fi,bU hpP, *]⟩;obtain⟨a1,r1,v1,rfl,rfl,hp1,ht1⟩:=hR;have hf1:=ht1 _ hF;refine tp (ll RecT.zero (RecT.mk a1 0 RowT.zero 0 BallotT.zero ChangeT.zero ViewT.zero) [(0,[Value.int .i64 a1])] eb e5 (g:=RecT.sg)) ?_;refine XZ H5 (ints RecT.zero.flat) λb4=>?_
 refine SW 0 fG bl ?_;refine nx J2 (ab λ_ J3=>sr λ_ J4=>FA 0 eb aR ?_);refine LT 0 Y3 (.int .i64 (a1)) ?_ (hc:=by exact kB _ rfl);refine nx J4 (au (sr λ_ J5=>PS ?_));refine ao ?_ ?_<;>intro h11;refine PS ?_;refine nx J5 (CY (sr λ_ J6=>PS ?_));refine CP I7 (tM rb v1 r1) (SM [1]) (λ_ d _=>(hf1).more d) (λcP HP hP=>?_) (λvR HR hR=>?_);obtain⟨vP,rfl,rfl,hpP⟩:=hP;refine ay (aO (ay (WK [0] (aU ?_))));exact⟨_,rfl,rfl,by simp[dw,fb,fi,aD hp1,bU hpP,h11, *]⟩;obtain⟨a2,r2,v2,rfl,rfl,hp2,ht2⟩:=hR;have hf2:=ht2 _ hf1;refine FA 2 eb ba ?_;refine SP 1 ba aj bl RecT.wp_row ?_;refine nx J6 (ab λ_ J7=>D1 1 mixed ?_);refine LY 0 eb fG bl ?_;refine FD 1 2 eb ba ?_;refine ta 2 rfl (aM (vs:=ints a2.flat) rfl dU rfl ba rfl (λ_ h=>h.2.1) (aj a2) (r9 (RecT.mk a1 0 a2 0 BallotT.zero ChangeT.zero ViewT.zero) 0 rfl (by decide) (whole (aj a2)))) ?_;refine AL 3 ?_;refine CE IT (jO a2 (An hp2)) ID ?_;refine EN (AL 4 ?_);refine SW 2 fG bl ?_;refine EN (PD 5 ?_);refine DN (ac J7 (ai (aH (ae (RT 2 [0] eb fG (bl _) ?_)))));exact⟨((RecT.mk a1 0 a2 0 BallotT.zero ChangeT.zero ViewT.zero),(gY a2)),_,_,rfl,rfl,by simp[dw,fb,fi,pr,aD hp1,aD hp2,h11,MsgT.zero,RecT.zero, *],(ht1.trans ht2)⟩;refine PS ?_;refine nx J5 (CN (sr λ_ J8=>PS ?_));refine ao ?_ ?_<;>intro h20;refine PS ?_;refine nx J8 (CY (sr λ_ J9=>PS ?_))
 refine CP jd (cK rb v1 r1 (5)) (SM [1]) (λ_ d _=>(hf1).more d) (λcP HP hP=>?_) (λvR HR hR=>?_);obtain⟨vP,rfl,rfl,hpP⟩:=hP;refine ay (aO (ay (WK [0] (aU ?_))));exact⟨_,rfl,rfl,by simp[dw,fb,fi,aD hp1,bU hpP,h11,h20, *]⟩;obtain⟨a2,r2,v2,rfl,rfl,hp2,ht2⟩:=hR;have hf2:=ht2 _ hf1;refine FA 1 eb aR ?_;refine SS 1 aR (bl _) (RecT.set_whose _ rfl _) ?_;refine nx J9 (sr λ_ J10=>PS ?_);refine CP I7 (tM rb v2 r2) ID (λ_ d _=>(hf2).more d) (λcP HP hP=>?_) (λvR HR hR=>?_);obtain⟨vP,rfl,rfl,hpP⟩:=hP;refine ay (aO (ay (WK [0] (aU ?_))));exact⟨_,rfl,rfl,by simp[dw,fb,fi,aD hp1,aD hp2,bU hpP,h11,h20, *]⟩;obtain⟨a3,r3,v3,rfl,rfl,hp3,ht3⟩:=hR;have hf3:=ht3 _ hf2;refine FA 2 eb ba ?_;refine SP 1 ba aj bl RecT.wp_row ?_;refine nx J10 (ab λ_ J11=>D1 1 mixed ?_);refine LY 0 eb fG bl ?_;refine FD 1 2 eb ba ?_;refine ta 2 rfl (aM (vs:=ints a3.flat) rfl dU rfl ba rfl (λ_ h=>h.2.1) (aj a3) (r9 (RecT.mk a1 a2 a3 0 BallotT.zero ChangeT.zero ViewT.zero) 0 rfl (by decide) (whole (aj a3)))) ?_;refine AL 3 ?_;refine CE IT (jO a3 (An hp3)) ID ?_;refine EN (AL 4 ?_);refine SW 2 fG bl ?_;refine EN (PD 5 ?_);refine DN (ac J11 (ai (aH (ae (RT 2 [0] eb fG (bl _) ?_)))));exact⟨((RecT.mk a1 a2 a3 0 BallotT.zero ChangeT.zero ViewT.zero),(gY a3)),_,_,rfl,rfl,by simp[dw,fb,fi,pr,aD hp1,aD hp2,aD hp3,h11,h20,MsgT.zero,RecT.zero, *],(ht1.trans (ht2.trans ht3))⟩;refine PS ?_
 refine nx J8 (CN (sr λ_ J12=>PS ?_));refine ao ?_ ?_<;>intro h32;refine PS ?_;refine nx J12 (CY (ad (PS ?_)));refine CP jd (cK rb v1 r1 (5)) (SM [1]) (λ_ d _=>(hf1).more d) (λcP HP hP=>?_) (λvR HR hR=>?_);obtain⟨vP,rfl,rfl,hpP⟩:=hP;refine aO (ay (WK [0] (aU ?_)));exact⟨_,rfl,rfl,by simp[dw,fb,fi,aD hp1,bU hpP,h11,h20,h32, *]⟩;obtain⟨a2,r2,v2,rfl,rfl,hp2,ht2⟩:=hR;have hf2:=ht2 _ hf1;refine FA 1 eb aR ?_;refine SS 1 aR (bl _) (RecT.set_whose _ rfl _) ?_;refine aq (ag (ac J3 (sr λ_ J13=>LW 1 eb fG bl ?_)));refine SW 2 fG bl ?_;refine PS ?_;refine nx J13 (ai (RT 2 [0] eb fG (bl _) ?_));exact⟨((RecT.mk a1 a2 RowT.zero 0 BallotT.zero ChangeT.zero ViewT.zero),true),_,_,rfl,rfl,by simp[dw,fb,fi,pr,aD hp1,aD hp2,h11,h20,h32,MsgT.zero,RecT.zero, *],(ht1.trans ht2)⟩;refine PS ?_;refine nx J12 (CN (sr λ_ J14=>PS ?_));refine ao ?_ ?_<;>intro h37;refine PS ?_;refine nx J14 (CY (sr λ_ J15=>PS ?_));refine CP qb (jc rb v1 r1) (SM [1]) (λ_ d _=>(hf1).more d) (λcP HP hP=>?_) (λvR HR hR=>?_);obtain⟨vP,rfl,rfl,hpP⟩:=hP;refine ay (aO (ay (WK [0] (aU ?_))));exact⟨_,rfl,rfl,by simp[dw,fb,fi,aD hp1,bU hpP,h11,h20,h32,h37, *]⟩;obtain⟨a2,r2,v2,rfl,rfl,hp2,ht2⟩:=hR;have hf2:=ht2 _ hf1;refine FA 176 eb aR ?_;refine SS 1 aR (bl _) (RecT.set_epoch _ rfl _) ?_;refine nx J15 (ad (PS ?_))
 refine CP zg (jt rb v2 r2) ID (λ_ d _=>(hf2).more d) (λcP HP hP=>?_) (λvR HR hR=>?_);obtain⟨vP,rfl,rfl,hpP⟩:=hP;refine aO (ay (WK [0] (aU ?_)));exact⟨_,rfl,rfl,by simp[dw,fb,fi,aD hp1,aD hp2,bU hpP,h11,h20,h32,h37, *]⟩;obtain⟨a3,r3,v3,rfl,rfl,hp3,ht3⟩:=hR;have hf3:=ht3 _ hf2;refine FA 177 eb cv ?_;refine SP 1 cv ap bl RecT.wp_ballot ?_;refine aq (ag (ac J3 (sr λ_ J16=>LW 1 eb fG bl ?_)));refine SW 2 fG bl ?_;refine PS ?_;refine nx J16 (ai (RT 2 [0] eb fG (bl _) ?_));exact⟨((RecT.mk a1 0 RowT.zero a2 a3 ChangeT.zero ViewT.zero),true),_,_,rfl,rfl,by simp[dw,fb,fi,pr,aD hp1,aD hp2,aD hp3,h11,h20,h32,h37,MsgT.zero,RecT.zero, *],(ht1.trans (ht2.trans ht3))⟩;refine PS ?_;refine nx J14 (CN (sr λ_ J17=>PS ?_));refine ao ?_ ?_<;>intro h45;refine PS ?_;refine nx J17 (CY (sr λ_ J18=>PS ?_));refine CP qb (jc rb v1 r1) (SM [1]) (λ_ d _=>(hf1).more d) (λcP HP hP=>?_) (λvR HR hR=>?_);obtain⟨vP,rfl,rfl,hpP⟩:=hP;refine ay (aO (ay (WK [0] (aU ?_))));exact⟨_,rfl,rfl,by simp[dw,fb,fi,aD hp1,bU hpP,h11,h20,h32,h37,h45, *]⟩;obtain⟨a2,r2,v2,rfl,rfl,hp2,ht2⟩:=hR;have hf2:=ht2 _ hf1;refine FA 176 eb aR ?_;refine SS 1 aR (bl _) (RecT.set_epoch _ rfl _) ?_;refine nx J18 (sr λ_ J19=>PS ?_);refine CP zg (jt rb v2 r2) ID (λ_ d _=>(hf2).more d) (λcP HP hP=>?_) (λvR HR hR=>?_);obtain⟨vP,rfl,rfl,hpP⟩:=hP;refine ay (aO (ay (WK [0] (aU ?_))))
 exact⟨_,rfl,rfl,by simp[dw,fb,fi,aD hp1,aD hp2,bU hpP,h11,h20,h32,h37,h45, *]⟩;obtain⟨a3,r3,v3,rfl,rfl,hp3,ht3⟩:=hR;have hf3:=ht3 _ hf2;refine FA 177 eb cv ?_;refine SP 1 cv ap bl RecT.wp_ballot ?_;refine nx J19 (ad (PS ?_));refine CP I6 (oP rb v3 r3) ID (λ_ d _=>(hf3).more d) (λcP HP hP=>?_) (λvR HR hR=>?_);obtain⟨vP,rfl,rfl,hpP⟩:=hP;refine aO (ay (WK [0] (aU ?_)));exact⟨_,rfl,rfl,by simp[dw,fb,fi,aD hp1,aD hp2,aD hp3,bU hpP,h11,h20,h32,h37,h45, *]⟩;obtain⟨a4,r4,v4,rfl,rfl,hp4,ht4⟩:=hR;have hf4:=ht4 _ hf3;refine FA 179 eb fp ?_;refine SP 1 fp aI bl RecT.wp_change ?_;refine aq (ag (ac J3 (sr λ_ J20=>LW 1 eb fG bl ?_)));refine SW 2 fG bl ?_;refine PS ?_;refine nx J20 (ai (RT 2 [0] eb fG (bl _) ?_));exact⟨((RecT.mk a1 0 RowT.zero a2 a3 a4 ViewT.zero),true),_,_,rfl,rfl,by simp[dw,fb,fi,pr,aD hp1,aD hp2,aD hp3,aD hp4,h11,h20,h32,h37,h45,MsgT.zero,RecT.zero, *],(ht1.trans (ht2.trans (ht3.trans ht4)))⟩;refine PS ?_;refine nx J17 (CN (sr λ_ J21=>PS ?_));refine ao ?_ ?_<;>intro h56;refine PS ?_;refine nx J21 (CY (sr λ_ J22=>PS ?_));refine CP I5 (rD rb v1 r1) (SM [1]) (λ_ d _=>(hf1).more d) (λcP HP hP=>?_) (λvR HR hR=>?_);obtain⟨vP,rfl,rfl,hpP⟩:=hP;refine ay (aO (ay (WK [0] (aU ?_))));exact⟨_,rfl,rfl,by simp[dw,fb,fi,aD hp1,bU hpP,h11,h20,h32,h37,h45,h56, *]⟩;obtain⟨a2,r2,v2,rfl,rfl,hp2,ht2⟩:=hR;have hf2:=ht2 _ hf1
 refine FA 182 eb bf ?_;refine SP 1 bf am bl RecT.wp_view ?_;refine nx J22 (ab λ_ J23=>D1 1 mixed ?_);refine LY 0 eb fG bl ?_;refine FD 1 182 eb bf ?_;refine ta 2 rfl (aM (vs:=ints a2.flat) rfl eE rfl bf rfl (λ_ h=>h.2.1) (am a2) (PY (RecT.mk a1 0 RowT.zero 0 BallotT.zero ChangeT.zero a2) 0 rfl (by decide) (whole (am a2)))) ?_;refine AL 3 ?_;refine CE I4 (mJ a2 (sv hp2)) ID ?_;refine EN (AL 4 ?_);refine SW 2 fG bl ?_;refine EN (PD 5 ?_);refine DN (ac J23 (ai (aH (ae (RT 2 [0] eb fG (bl _) ?_)))));exact⟨((RecT.mk a1 0 RowT.zero 0 BallotT.zero ChangeT.zero a2),(kM a2)),_,_,rfl,rfl,by simp[dw,fb,fi,pr,aD hp1,aD hp2,h11,h20,h32,h37,h45,h56,MsgT.zero,RecT.zero, *],(ht1.trans ht2)⟩;refine PS ?_;refine nx J21 (CN (aT (ag (ac J3 (sr λ_ J24=>LW 0 eb fG bl ?_)))));refine SW 2 fG bl ?_;refine PS ?_;refine nx J24 (ai (RT 2 [1] eb fG (bl _) ?_));exact⟨((RecT.mk a1 0 RowT.zero 0 BallotT.zero ChangeT.zero ViewT.zero),true),_,_,rfl,rfl,by simp[dw,fb,fi,pr,aD hp1,h11,h20,h32,h37,h45,h56,MsgT.zero,RecT.zero, *],ht1⟩
theorem Ew(rb mb gb:Nat)(v:Value)(bs:List UInt8)(m0:MsgT)(g0:Bool):
 DT 119 #[(.pointer (some ⟨rb,0,none⟩)),(.pointer (some ⟨mb,0,none⟩)),(.pointer (some ⟨gb,0,none⟩))] (IsB v bs) [ah rb [v] 219,ah mb (ints m0.flat) 163,ah gb [(.bool (g0))] 4] (vz (λ_ H=>∃x' r a,H=ah rb [x'] 219::[ah mb (ints a.1.flat) 163,ah gb [.bool a.2] 4]∧Tail v bs x' r∧cL bs=some (a,r)) (λc H=>c=ij∧∃(x':Value) (_:Unit),H=ah rb [x'] 219::[ah mb (ints m0.flat) 163,ah gb [.bool g0] 4]∧cL bs=none)):=by
 refine BD 9 Tryz.func119 rfl rfl rfl λw0 F hF=>ad (PS ?_)
 refine CP Ol (As rb v bs) ID (λ_ d _=>(hF).more d) (λcP HP hP=>?_) (λvR HR hR=>?_);obtain⟨vP,rfl,rfl,hpP⟩:=hP;exact WK [0,0,0] (aU ⟨rfl,_,(),rfl,hpP⟩);obtain⟨a1,r1,v1,rfl,rfl,hp1,ht1⟩:=hR;refine P3 ?_;refine SW 1 cd aG ?_;refine S0 2 k0 ?_;exact aq (WK [0,0,0] (bp rfl ⟨_,_,_,rfl,ht1,hp1⟩))
theorem C5(x:Value)(bs:List UInt8):
 DT 81 #[x] (IsB x bs) [] (RI (.tuple #[.agg (ints (iP bs).1.flat).toArray, .int .i64 (iP bs).2]) []):=by
 refine Leg.Does.body (vs:=[x]) (n:=18) Tryz.func81 rfl rfl rfl (λw0 F hF=>?_);refine sr λ_ J1=>?_
 refine lQ (aa rfl) rfl rfl rfl mn (λb2=>?_);change TL _ _ _ _ _ _ _ _ _ [ah b2 (ints MsgT.zero.flat) 163];refine pG ?_;refine nx J1 ?_;clear J1;refine sr λ_ J2=>?_
 refine lQ (aa rfl) rfl rfl rfl mn (λb4=>?_);change TL _ _ _ _ _ _ _ _ _ [ah b4 (ints MsgT.zero.flat) 163,ah b2 (ints MsgT.zero.flat) 163];refine nx J2 ?_;clear J2;refine sr λ_ J3=>?_
 refine lQ (aa rfl) rfl rfl rfl z4 (λb5=>?_);refine bw (i:=0) (aa rfl) rfl rfl rfl rfl rfl k0 rfl rfl (lb rfl) rfl rfl ?_;refine nx J3 ?_;clear J3;refine sr λ_ J4=>?_
 refine mv ?_;refine tp (Qb rfl rfl) ?_;refine hJ (aa rfl) rfl rfl rfl L8 rfl (y9 (bs:=bs) (C:=[ah b4 (ints MsgT.zero.flat) 163,ah b5 [(.bool false)] 4]) (caps:=[(.pointer (some ⟨b4,0,none⟩)),(.pointer (some ⟨b5,0,none⟩))]) (A:=λa:MsgT×Bool=>[ah b4 (ints a.1.flat) 163,ah b5 [.bool a.2] 4]) (G:=λ_:Unit=>[ah b4 (ints MsgT.zero.flat) 163,ah b5 [(.bool false)] 4]) (φ:=λa r=>cL bs=some (a,r)) (ψ:=λ_=>cL bs=none) (λ_ h=>h) (λ_ _ h d=>h.more d) Om (λrb=>Ew rb b4 b5 x bs MsgT.zero false)) (λ_ s=>aB [1,0] rfl s) (λ_ d _=>(hF).more d) (λvR HR hR=>?_);rcases hR with⟨r,⟨m,g⟩,rfl,rfl,hs⟩| ⟨_,rfl,rfl,hs⟩
 refine ao (λh9=>?_) (λh9=>?_);refine pG ?_;refine nx J4 ?_;clear J4;refine ab λ_ J5=>?_
 refine sr λ_ J6=>?_
 refine mv ?_;refine tp (mB (r:=false) rfl rfl rfl) ?_;refine mv ?_;refine tq (eZ (v:=(.bool (g))) rfl Y4 rfl rfl (dR 1 rfl rfl) rfl) ?_;refine bc (λh13=>?_) (λh13=>?_);refine tq (mB (r:=false) rfl rfl rfl) ?_;refine tp (l8 rfl rfl rfl) ?_;refine nx J6 ?_;clear J6;refine tl rfl ?_;refine aT ?_;refine ac J5 ?_;clear J5;refine sr λ_ J7=>?_
 refine tp (aM (vs:=ints m.flat) rfl bd rfl cd rfl (dR 0 rfl rfl) (aG m) (whole (aG m))) ?_;refine bP (vs:=ints m.flat) (i:=2) (aa rfl) rfl rfl rfl rfl rfl (by rw[(aG m)];exact cd) (bj _) rfl rfl (by have h0:=(aG MsgT.zero);have h1:=(aG m);omega) (cr ((aG MsgT.zero).trans (aG m).symm)) rfl ?_;refine pG ?_;refine nx J7 ?_;clear J7;refine ai ?_;refine lR (H':=[]) rfl rfl rfl bd rfl cd (dR 2 rfl rfl) (aG m) (λ_ s=>ak [] rfl s) ?_;exact⟨by simp[iP, *],rfl⟩;refine tq (mB (r:=true) rfl rfl rfl) ?_;refine tp (l8 rfl rfl rfl) ?_;refine nx J6 ?_;clear J6;refine iS rfl ?_;refine sr λ_ J8=>?_
 refine tp (jY (cells:=(ints MsgT.zero.flat).toArray) rfl rfl (by as_aux_lemma=>kernel_rfl)) ?_;refine bP (vs:=ints MsgT.zero.flat) (i:=2) (aa rfl) rfl rfl rfl rfl rfl (by rw[(aG MsgT.zero)];exact cd) (bj _) rfl rfl (by have h0:=(aG MsgT.zero);have h1:=(aG MsgT.zero);omega) (cr ((aG MsgT.zero).trans (aG MsgT.zero).symm)) rfl ?_;refine pG ?_;refine nx J8 ?_;clear J8;refine ai ?_;refine ae ?_;clear J5;refine lR (H':=[]) rfl rfl rfl bd rfl cd (dR 2 rfl rfl) (aG MsgT.zero) (λ_ s=>ak [] rfl s) ?_;exact⟨by simp[iP, *],rfl⟩;refine pG ?_;refine nx J4 ?_;clear J4;refine ab λ_ J9=>?_
 refine sr λ_ J10=>?_
 refine mv ?_;refine tp (mB (r:=true) rfl rfl rfl) ?_;refine mv ?_;refine kW (b:=true) rfl rfl rfl rfl (lb rfl) ?_;refine kW (b:=true) rfl rfl rfl rfl (lb rfl) ?_;refine tp (l8 rfl rfl rfl) ?_;refine nx J10 ?_;clear J10;refine iS rfl ?_;refine sr λ_ J11=>?_
 refine tp (jY (cells:=(ints MsgT.zero.flat).toArray) rfl rfl (by as_aux_lemma=>kernel_rfl)) ?_;refine bP (vs:=ints MsgT.zero.flat) (i:=2) (aa rfl) rfl rfl rfl rfl rfl (by rw[(aG MsgT.zero)];exact cd) (bj _) rfl rfl (by have h0:=(aG MsgT.zero);have h1:=(aG MsgT.zero);omega) (cr ((aG MsgT.zero).trans (aG MsgT.zero).symm)) rfl ?_;refine pG ?_;refine nx J11 ?_;clear J11;refine ai ?_;refine ae ?_;clear J9;refine lR (H':=[]) rfl rfl rfl bd rfl cd (dR 2 rfl rfl) (aG MsgT.zero) (λ_ s=>ak [] rfl s) ?_;exact⟨by simp[iP, *],rfl⟩;refine pG ?_;refine nx J4 ?_;clear J4;refine ab λ_ J12=>?_
 refine sr λ_ J13=>?_
 refine mv ?_;refine tp (mB (r:=true) rfl rfl rfl) ?_;refine mv ?_;refine kW (b:=true) rfl rfl rfl rfl (lb rfl) ?_;refine kW (b:=true) rfl rfl rfl rfl (lb rfl) ?_;refine tp (l8 rfl rfl rfl) ?_;refine nx J13 ?_;clear J13;refine iS rfl ?_;refine sr λ_ J14=>?_
 refine tp (jY (cells:=(ints MsgT.zero.flat).toArray) rfl rfl (by as_aux_lemma=>kernel_rfl)) ?_;refine bP (vs:=ints MsgT.zero.flat) (i:=2) (aa rfl) rfl rfl rfl rfl rfl (by rw[(aG MsgT.zero)];exact cd) (bj _) rfl rfl (by have h0:=(aG MsgT.zero);have h1:=(aG MsgT.zero);omega) (cr ((aG MsgT.zero).trans (aG MsgT.zero).symm)) rfl ?_;refine pG ?_;refine nx J14 ?_;clear J14;refine ai ?_;refine ae ?_;clear J12;refine lR (H':=[]) rfl rfl rfl bd rfl cd (dR 2 rfl rfl) (aG MsgT.zero) (λ_ s=>ak [] rfl s) ?_;exact⟨by simp[iP, *],rfl⟩
theorem GN(rb mb gb:Nat)(v:Value)(bs:List UInt8)(m0:RecT)(g0:Bool):
 DT 106 #[(.pointer (some ⟨rb,0,none⟩)),(.pointer (some ⟨mb,0,none⟩)),(.pointer (some ⟨gb,0,none⟩))] (IsB v bs) [ah rb [v] 219,ah mb (ints m0.flat) 146,ah gb [(.bool (g0))] 4] (vz (λ_ H=>∃x' r a,H=ah rb [x'] 219::[ah mb (ints a.1.flat) 146,ah gb [.bool a.2] 4]∧Tail v bs x' r∧dw bs=some (a,r)) (λc H=>c=ij∧∃(x':Value) (_:Unit),H=ah rb [x'] 219::[ah mb (ints m0.flat) 146,ah gb [.bool g0] 4]∧dw bs=none)):=by
 refine BD 9 Tryz.func106 rfl rfl rfl λw0 F hF=>ad (PS ?_)
 refine CP Ov (Ar rb v bs) ID (λ_ d _=>(hF).more d) (λcP HP hP=>?_) (λvR HR hR=>?_);obtain⟨vP,rfl,rfl,hpP⟩:=hP;exact WK [0,0,0] (aU ⟨rfl,_,(),rfl,hpP⟩);obtain⟨a1,r1,v1,rfl,rfl,hp1,ht1⟩:=hR;refine P3 ?_;refine SW 1 fG bl ?_;refine S0 2 k0 ?_;exact aq (WK [0,0,0] (bp rfl ⟨_,_,_,rfl,ht1,hp1⟩))
theorem vh(x:Value)(bs:List UInt8):
 DT 68 #[x] (IsB x bs) [] (RI (.tuple #[.agg (ints (oj bs).1.flat).toArray, .int .i64 (oj bs).2]) []):=by
 refine Leg.Does.body (vs:=[x]) (n:=18) Tryz.func68 rfl rfl rfl (λw0 F hF=>?_);refine sr λ_ J1=>?_
 refine lQ (aa rfl) rfl rfl rfl H5 (λb2=>?_);change TL _ _ _ _ _ _ _ _ _ [ah b2 (ints RecT.zero.flat) 146];refine pG ?_;refine nx J1 ?_;clear J1;refine sr λ_ J2=>?_
 refine lQ (aa rfl) rfl rfl rfl H5 (λb4=>?_);change TL _ _ _ _ _ _ _ _ _ [ah b4 (ints RecT.zero.flat) 146,ah b2 (ints RecT.zero.flat) 146];refine nx J2 ?_;clear J2;refine sr λ_ J3=>?_
 refine lQ (aa rfl) rfl rfl rfl z4 (λb5=>?_);refine bw (i:=0) (aa rfl) rfl rfl rfl rfl rfl k0 rfl rfl (lb rfl) rfl rfl ?_;refine nx J3 ?_;clear J3;refine sr λ_ J4=>?_
 refine mv ?_;refine tp (Qb rfl rfl) ?_;refine hJ (aa rfl) rfl rfl rfl L8 rfl (y9 (bs:=bs) (C:=[ah b4 (ints RecT.zero.flat) 146,ah b5 [(.bool false)] 4]) (caps:=[(.pointer (some ⟨b4,0,none⟩)),(.pointer (some ⟨b5,0,none⟩))]) (A:=λa:RecT×Bool=>[ah b4 (ints a.1.flat) 146,ah b5 [.bool a.2] 4]) (G:=λ_:Unit=>[ah b4 (ints RecT.zero.flat) 146,ah b5 [(.bool false)] 4]) (φ:=λa r=>dw bs=some (a,r)) (ψ:=λ_=>dw bs=none) (λ_ h=>h) (λ_ _ h d=>h.more d) Ow (λrb=>GN rb b4 b5 x bs RecT.zero false)) (λ_ s=>aB [1,0] rfl s) (λ_ d _=>(hF).more d) (λvR HR hR=>?_);rcases hR with⟨r,⟨m,g⟩,rfl,rfl,hs⟩| ⟨_,rfl,rfl,hs⟩
 refine ao (λh9=>?_) (λh9=>?_);refine pG ?_;refine nx J4 ?_;clear J4;refine ab λ_ J5=>?_
 refine sr λ_ J6=>?_
 refine mv ?_;refine tp (mB (r:=false) rfl rfl rfl) ?_;refine mv ?_;refine tq (eZ (v:=(.bool (g))) rfl Y4 rfl rfl (dR 1 rfl rfl) rfl) ?_;refine bc (λh13=>?_) (λh13=>?_);refine tq (mB (r:=false) rfl rfl rfl) ?_;refine tp (l8 rfl rfl rfl) ?_;refine nx J6 ?_;clear J6;refine tl rfl ?_;refine aT ?_;refine ac J5 ?_;clear J5;refine sr λ_ J7=>?_
 refine tp (aM (vs:=ints m.flat) rfl eb rfl fG rfl (dR 0 rfl rfl) (bl m) (whole (bl m))) ?_;refine bP (vs:=ints m.flat) (i:=2) (aa rfl) rfl rfl rfl rfl rfl (by rw[(bl m)];exact fG) (bj _) rfl rfl (by have h0:=(bl RecT.zero);have h1:=(bl m);omega) (cr ((bl RecT.zero).trans (bl m).symm)) rfl ?_;refine pG ?_;refine nx J7 ?_;clear J7;refine ai ?_;refine lR (H':=[]) rfl rfl rfl eb rfl fG (dR 2 rfl rfl) (bl m) (λ_ s=>ak [] rfl s) ?_;exact⟨by simp[oj, *],rfl⟩;refine tq (mB (r:=true) rfl rfl rfl) ?_;refine tp (l8 rfl rfl rfl) ?_;refine nx J6 ?_;clear J6;refine iS rfl ?_;refine sr λ_ J8=>?_
 refine tp (jY (cells:=(ints RecT.zero.flat).toArray) rfl rfl (by as_aux_lemma=>kernel_rfl)) ?_;refine bP (vs:=ints RecT.zero.flat) (i:=2) (aa rfl) rfl rfl rfl rfl rfl (by rw[(bl RecT.zero)];exact fG) (bj _) rfl rfl (by have h0:=(bl RecT.zero);have h1:=(bl RecT.zero);omega) (cr ((bl RecT.zero).trans (bl RecT.zero).symm)) rfl ?_;refine pG ?_;refine nx J8 ?_;clear J8;refine ai ?_;refine ae ?_;clear J5;refine lR (H':=[]) rfl rfl rfl eb rfl fG (dR 2 rfl rfl) (bl RecT.zero) (λ_ s=>ak [] rfl s) ?_;exact⟨by simp[oj, *],rfl⟩;refine pG ?_;refine nx J4 ?_;clear J4;refine ab λ_ J9=>?_
 refine sr λ_ J10=>?_
 refine mv ?_;refine tp (mB (r:=true) rfl rfl rfl) ?_;refine mv ?_;refine kW (b:=true) rfl rfl rfl rfl (lb rfl) ?_;refine kW (b:=true) rfl rfl rfl rfl (lb rfl) ?_;refine tp (l8 rfl rfl rfl) ?_;refine nx J10 ?_;clear J10;refine iS rfl ?_;refine sr λ_ J11=>?_
 refine tp (jY (cells:=(ints RecT.zero.flat).toArray) rfl rfl (by as_aux_lemma=>kernel_rfl)) ?_;refine bP (vs:=ints RecT.zero.flat) (i:=2) (aa rfl) rfl rfl rfl rfl rfl (by rw[(bl RecT.zero)];exact fG) (bj _) rfl rfl (by have h0:=(bl RecT.zero);have h1:=(bl RecT.zero);omega) (cr ((bl RecT.zero).trans (bl RecT.zero).symm)) rfl ?_;refine pG ?_;refine nx J11 ?_;clear J11;refine ai ?_;refine ae ?_;clear J9;refine lR (H':=[]) rfl rfl rfl eb rfl fG (dR 2 rfl rfl) (bl RecT.zero) (λ_ s=>ak [] rfl s) ?_;exact⟨by simp[oj, *],rfl⟩;refine pG ?_;refine nx J4 ?_;clear J4;refine ab λ_ J12=>?_
 refine sr λ_ J13=>?_
 refine mv ?_;refine tp (mB (r:=true) rfl rfl rfl) ?_;refine mv ?_;refine kW (b:=true) rfl rfl rfl rfl (lb rfl) ?_;refine kW (b:=true) rfl rfl rfl rfl (lb rfl) ?_;refine tp (l8 rfl rfl rfl) ?_;refine nx J13 ?_;clear J13;refine iS rfl ?_;refine sr λ_ J14=>?_
 refine tp (jY (cells:=(ints RecT.zero.flat).toArray) rfl rfl (by as_aux_lemma=>kernel_rfl)) ?_;refine bP (vs:=ints RecT.zero.flat) (i:=2) (aa rfl) rfl rfl rfl rfl rfl (by rw[(bl RecT.zero)];exact fG) (bj _) rfl rfl (by have h0:=(bl RecT.zero);have h1:=(bl RecT.zero);omega) (cr ((bl RecT.zero).trans (bl RecT.zero).symm)) rfl ?_;refine pG ?_;refine nx J14 ?_;clear J14;refine ai ?_;refine ae ?_;clear J12;refine lR (H':=[]) rfl rfl rfl eb rfl fG (dR 2 rfl rfl) (bl RecT.zero) (λ_ s=>ak [] rfl s) ?_;exact⟨by simp[oj, *],rfl⟩
open Dsk Wal
theorem ti(b c s r:Nat)(us:List Value)(ls:List (List UInt8)):
 DT 77 #[(.pointer (some ⟨b,0,none⟩))] T0 [ah b [(.chan (some c))] 184,dZ c 8 (us) (s) (r),eA (us) (ls) 5] (RI (.int .i64 ((ls.length:Nat):Int)) [ah b [(.chan (some c))] 184,dZ c 8 (us) (s) (r),eA (us) (ls) 5]):=by
 refine BD 8 Tryz.func77 rfl rfl rfl λw0 F hF=>sr λ_ J1=>PS ?_
 refine nx J1 (sr λ_ J2=>yC (p:=us.length=ls.length) (λw m=>(qN 2 rfl rfl m).1) (λhul=>P2 ?_));refine FA 0 Dp uz ?_;refine LA 0 vu ?_;refine tp (PV.lenChan 1 rfl vu rfl rfl rfl) ?_;refine PS ?_;refine nx J2 (ai (WK [0,0,0] (av rfl rfl ?_)));exact⟨by rw[hul],rfl⟩
theorem kw(b:Nat)(ls:List (List UInt8)):DT 77 #[.pointer (some ⟨b,0,none⟩)] T0 [hX 184 5 b ls] (RI (.int .i64 ((ls.length:Nat):Int)) [hX 184 5 b ls]):=
 Leg.Does.pack (B:=[]) λq=>Leg.Does.fold (ti b q.1 q.2.2.1 q.2.2.2 q.2.1 ls) λe H hp=>by
  cases e with
  |returned v=>
   obtain⟨rfl,rfl⟩:=hp;exact⟨_,λ_ s=>bn (p:=λq:Nat×List Value×Nat×Nat=>[ah b [.chan (some q.1)] 184,dZ q.1 8 q.2.1 q.2.2.1 q.2.2.2,eA q.2.1 ls 5]) (H:=[]) q s,rfl,rfl⟩
  |panicked c=>exact hp.elim
  |outgrown=>exact hp.elim
theorem A8(b c s r:Nat)(us:List Value)(ls:List (List UInt8))(x:Value)(bs:List UInt8)(hb:bs.length≤1000000):
 DT 116 #[(.pointer (some ⟨b,0,none⟩)),x] (IsW x bs) [ah b [(.chan (some c))] 184,dZ c 8 (us) (s) (r),eA (us) (ls) 5] (dh (λv H=>(ls.length<8∧v= .bool true∧∃u,H=[ah b [(.chan (some c))] 184,dZ c 8 (us++[u]) (s+1) r,eA us ls 5,ce u bs 5])∨(¬ls.length<8∧v= .bool false∧H=[ah b [(.chan (some c))] 184,dZ c 8 (us) (s) (r),eA (us) (ls) 5]))):=by
 refine Leg.Does.body (vs:=[(.pointer (some ⟨b,0,none⟩)),x]) (n:=15) Tryz.func116 rfl rfl rfl (λw0 F hF=>?_);refine sr λ_ J1=>?_
 refine pG ?_;refine nx J1 ?_;refine ab λ_ J2=>?_
 refine sr λ_ J3=>?_
 refine yC (p:=us.length=ls.length) (λw m=>(qN 2 rfl rfl m).1) (λhul=>?_);refine mv ?_;refine tp (fZ rfl rfl) ?_;refine tp (aZ (r:=0) rfl Dp rfl uz rfl rfl) ?_;refine tp (eZ (v:=(.chan (some c))) rfl vu rfl rfl (dR 0 rfl rfl) rfl) ?_;refine nx J3 ?_;refine ad ?_;refine Ds (aa rfl) rfl rfl rfl fB jF (λv9=>?_);change TL _ _ _ _ _ _ _ _ _ [ce v9 ([]) 5,ah b [(.chan (some c))] 184,dZ c 8 (us) (s) (r),eA (us) (ls) 5];refine mv ?_;refine ci (k:=0) (news:=dG (bs)) (nn':=(bs:List UInt8).length) (xs':=dG (bs)) (aa rfl) rfl rfl rfl fB x9 rfl rfl rfl rfl rfl rfl (λ_ _=>hF.src (λ_ h=>ec h)) (eU _) (by simp only[maxLen,aw];omega) (by simp only[aw];omega) (by simp) (bI _) (λv11 ov11=>?_);change TL _ _ _ _ _ _ _ _ _ [ce v11 (bs) 5,ah b [(.chan (some c))] 184,dZ c 8 (us) (s) (r),eA (us) (ls) 5];refine nx J2 ?_;refine ab λ_ J4=>?_
 refine yE ?_;change TX _ _ _ _ _ _ [0,1,2] _ _ _
 by_cases hroom:us.length<8
 refine TX.sendRoom 2 rfl (aa rfl) rfl rfl rfl z53 rfl rfl rfl rfl hroom ?_;change TX _ _ _ _ _ _ _ _ _ [ce v11 (bs) 5,ah b [(.chan (some c))] 184,dZ c 8 (us++[v11]) (s+1) (r),eA (us) (ls) 5];refine tk rfl (aa rfl) rfl rfl (gT (vs:=[(.int .i64 0),(.bool false)]) rfl rfl rfl) ?_;refine tk rfl (aa rfl) rfl rfl (OM rfl rfl rfl) ?_;refine Lm ?_;refine ac J4 ?_;refine au ?_;refine iS rfl ?_;refine sr λ_ J5=>?_
 refine pG ?_;refine nx J5 ?_;refine ai ?_;refine aH ?_;refine aF (dd _) (λ_ s=>ak [1,1,1,0] rfl s) ?_;refine av rfl rfl ?_;exact Or.inl ⟨by omega,rfl,_,rfl⟩;refine TX.sendFull 2 rfl (aa rfl) rfl rfl rfl z53 rfl rfl rfl rfl (by omega) ?_;refine tk rfl (aa rfl) rfl rfl (gT (vs:=[(.int .i64 (-1)),(.bool false)]) rfl rfl rfl) ?_;refine tk rfl (aa rfl) rfl rfl (OM rfl rfl rfl) ?_;refine Lm ?_;refine ac J4 ?_;refine au ?_;refine tl rfl ?_;refine sr λ_ J6=>?_
 refine pG ?_;refine nx J6 ?_;refine ai ?_;refine aH ?_;refine aF (dd _) (λ_ s=>ak [1,1,1] rfl s) ?_;refine av rfl rfl ?_;exact Or.inr ⟨by omega,rfl,rfl⟩
theorem uZ(b:Nat)(ls:List (List UInt8))(x:Value)(bs:List UInt8)(hb:bs.length≤1000000):DT 116 #[.pointer (some ⟨b,0,none⟩),x] (IsW x bs) [hX 184 5 b ls] (RI (.bool (decide (ls.length<8))) [hX 184 5 b (Aw ls bs)]):=
 Leg.Does.pack (B:=[]) λq=>Leg.Does.fold (A8 b q.1 q.2.2.1 q.2.2.2 q.2.1 ls x bs hb) λe H hp=>by
  cases e with
  |returned v=>
   unfold Aw;rcases hp with⟨h8,rfl,u,rfl⟩| ⟨h8,rfl,rfl⟩
   · refine⟨[hX 184 5 b (ls++[bs])],λ_ s=>?_,by rw[decide_eq_true h8],by rw[if_pos h8]⟩
     have s1:=Ah 3 rfl rfl s;have s2:=aB [2,2] rfl s1;have s3:=ul s2;exact bn (p:=λq:Nat×List Value×Nat×Nat=>[ah b [.chan (some q.1)] 184,dZ q.1 8 q.2.1 q.2.2.1 q.2.2.2,eA q.2.1 (ls++[bs]) 5]) (H:=[]) (q.1,q.2.1++[u],q.2.2.1+1,q.2.2.2) (aB [1,1,0] rfl s3)
   · exact⟨[hX 184 5 b ls],λ_ s=>bn (p:=λq:Nat×List Value×Nat×Nat=>[ah b [.chan (some q.1)] 184,dZ q.1 8 q.2.1 q.2.2.1 q.2.2.2,eA q.2.1 ls 5]) (H:=[]) q s,by rw[decide_eq_false h8],by rw[if_neg h8]⟩
  |panicked c=>exact hp.elim
  |outgrown=>exact hp.elim
theorem yz(b c s r:Nat)(us:List Value)(ls:List (List UInt8)):
 DT 117 #[(.pointer (some ⟨b,0,none⟩))] T0 [ah b [(.chan (some c))] 184,dZ c 8 (us) (s) (r),eA (us) (ls) 5] (dh (λv H=>(ls=[]∧v= .tuple #[.slice none 0 0, .bool false]∧H=[ah b [(.chan (some c))] 184,dZ c 8 [] s r,eA [] ls 5])∨(∃u us' f ls',ls=f::ls'∧v= .tuple #[u, .bool true]∧H=[ah b [(.chan (some c))] 184,dZ c 8 us' s (r+1),eA (u::us') (f::ls') 5]))):=by
 refine BD 14 Tryz.func117 rfl rfl rfl λw0 F hF=>sr λ_ J1=>P2 ?_
 refine nx J1 (sr λ_ J2=>yC (p:=us.length=ls.length) (λw m=>(qN 2 rfl rfl m).1) (λhul=>P2 ?_));refine FA 0 Dp uz ?_;refine LA 0 vu ?_;refine nx J2 (ab λ_ J3=>yE ?_);rcases us with _| ⟨u,us⟩
 refine TX.recvNone 1 rfl (aa rfl) rfl rfl rfl z53 rfl rfl rfl (tk rfl (aa rfl) rfl rfl (gT (vs:=[(.int .i64 (-1)),(.bool false),(.slice none 0 0)]) rfl rfl rfl) (tk rfl (aa rfl) rfl rfl (OM rfl rfl rfl) (Lm (ac J3 (au (CN (sr λ_ J4=>P2 ?_)))))));exact nx J4 (ai (aH (WK [0,0,0] (gQ rfl rfl rfl (Or.inl ⟨List.eq_nil_of_length_eq_zero hul.symm,rfl,rfl⟩)))));rcases ls with _| ⟨f,ls⟩
 · cases hul
 refine TX.recvBuf 1 rfl (aa rfl) rfl rfl rfl z53 rfl rfl rfl (tk rfl (aa rfl) rfl rfl (gT (vs:=[(.int .i64 0),(.bool true),u]) rfl rfl rfl) (tk rfl (aa rfl) rfl rfl (OM rfl rfl rfl) (Lm (ac J3 (au (CY (sr λ_ J5=>P2 ?_)))))));refine nx J5 (sr λ_ J6=>P3 ?_);exact nx J6 (ai (aH (WK [0,0,0] (gQ rfl rfl rfl (Or.inr ⟨u,us,f,ls,rfl,rfl,rfl⟩)))))
theorem th(b:Nat)(ls:List (List UInt8)):DT 117 #[.pointer (some ⟨b,0,none⟩)] T0 [hX 184 5 b ls] (dh (λv H=>(ls=[]∧v= .tuple #[.slice none 0 0, .bool false]∧H=[hX 184 5 b []])∨(∃u f ls',ls=f::ls'∧v= .tuple #[u, .bool true]∧H=[hX 184 5 b ls',gC u f 5]))):=
 Leg.Does.pack (B:=[]) λq=>Leg.Does.fold (yz b q.1 q.2.2.1 q.2.2.2 q.2.1 ls) λe H hp=>by
  cases e with
  |returned v=>
   rcases hp with⟨rfl,rfl,rfl⟩| ⟨u,us',f,ls',rfl,rfl,rfl⟩
   · exact⟨[hX 184 5 b []],λ_ s=>bn (p:=λq:Nat×List Value×Nat×Nat=>[ah b [.chan (some q.1)] 184,dZ q.1 8 q.2.1 q.2.2.1 q.2.2.2,eA q.2.1 [] 5]) (H:=[]) (q.1,[],q.2.2.1,q.2.2.2) s,Or.inl ⟨rfl,rfl,rfl⟩⟩
   · refine⟨[hX 184 5 b ls',gC u f 5],λ_ s=>?_,Or.inr ⟨u,f,ls',rfl,rfl,rfl⟩⟩
     have s1:=aB [2] rfl s;have s2:=HN s1;exact bn (p:=λq:Nat×List Value×Nat×Nat=>[ah b [.chan (some q.1)] 184,dZ q.1 8 q.2.1 q.2.2.1 q.2.2.2,eA q.2.1 ls' 5]) (H:=[gC u f 5]) (q.1,us',q.2.2.1,q.2.2.2+1) (aB [2,2,1,0] rfl s2)
  |panicked c=>exact hp.elim
  |outgrown=>exact hp.elim
theorem A9:
 DT 65 #[(.int .i64 8)] T0 [] (dh (λv H=>∃b c,v= .pointer (some ⟨b,0,none⟩)∧H=[ah b [(.chan (some c))] 184,dZ c 8 [] 0 0])):=by
 refine BD 9 Tryz.func65 rfl rfl rfl λw0 F hF=>sr λ_ J1=>PS ?_
 refine nx J1 (sr λ_ J2=>PS ?_);refine tp (Gb (v':=(.int .i64 8)) (yK rfl rfl rfl) rfl) ?_;refine tp (Gb (v':=(.int .i64 8)) (PV.minI rfl rfl rfl) rfl) ?_;refine TL.makeChan (k:=8) (bytes:=24) (aa rfl) rfl rfl rfl vu (by kernel_rfl) rfl (by omega) (by omega) (λc6=>BV #[(.chan (some c6))] ?_);refine XB λb8=>?_
 refine PS ?_;exact nx J2 (ai (WK [0,0] (av rfl rfl ⟨b8,c6,rfl,rfl⟩)))
theorem Di:DT 65 #[.int .i64 8] T0 [] (dh (λv H=>∃b,v= .pointer (some ⟨b,0,none⟩)∧H=[hX 184 5 b []])):=
 Leg.Does.fold A9 λe H hp=>by
  cases e with
  |returned v=>
   obtain⟨b,c,rfl,rfl⟩:=hp;exact⟨[hX 184 5 b []],λ_ s=>bn (p:=λq:Nat×List Value×Nat×Nat=>[ah b [.chan (some q.1)] 184,dZ q.1 8 q.2.1 q.2.2.1 q.2.2.2,eA q.2.1 [] 5]) (H:=[]) (c,[],0,0) (aB [1,1,0] rfl (zC s)),b,rfl,rfl⟩
  |panicked c=>exact hp.elim
  |outgrown=>exact hp.elim
theorem pg(w:Int):
 DT 115 #[(.int .i64 (w))] T0 [] (RI (.bool (gM w)) []):=by
 refine BD 9 Tryz.func115 rfl rfl rfl λw0 F hF=>sr λ_ J1=>PS ?_
 refine nx J1 (sr λ_ J2=>P2 ?_);refine ao ?_ ?_<;>intro h4
 iterate 5 refine PS ?_
 refine nx J2 (ai (WK [] (av rfl rfl ?_)));exact⟨congrArg Value.bool (by unfold gM;simp only[decide_eq_decide];omega),rfl⟩;refine PS ?_;refine UF ?_;refine UF ?_;refine P2 ?_;refine nx J2 (ai (WK [] (av rfl rfl ?_)));exact⟨congrArg Value.bool (by unfold gM;symm;exact decide_eq_false (by omega)),rfl⟩
theorem mI(n:Nat)(bs:List Nat)(from' to':Int):
 DT 76 #[(.pointer (some ⟨n,0,none⟩)),(.int .i64 (from')),(.int .i64 (to'))] T0 [ah n (fa bs) 135] (dh (λv H=>((dK from' to'=true∧v= .pointer (some ⟨(bs.getD (bA from' to') 0),0,none⟩))∨(dK from' to'=false∧v= .pointer none))∧H=[ah n (fa bs) 135])):=by
 refine BD 23 Tryz.func76 rfl rfl rfl λw0 F hF=>sr λ_ J1=>PS ?_
 refine nx J1 (ab λ_ J2=>sr λ_ J3=>PS ?_);refine CE L4 (pg from') ID ?_;refine bc ?_ ?_<;>intro h8;have hf:0≤from'∧from'<5:=of_decide_eq_true h8
 refine PS ?_;refine P2 ?_;refine CE L4 (pg to') ID ?_;refine bc ?_ ?_<;>intro h12;have ht:0≤to'∧to'<5:=of_decide_eq_true h12;refine PS ?_;refine PS ?_;refine nx J3 (CN (qx J2 (sr λ_ J4=>P4 ?_)));refine FA 0 Tryz.underlying135 Lt ?_;refine IX (((from').toNat)*5) Tryz.underlying133 Lu ?_;refine IX (((from').toNat)*5+(to').toNat) Tryz.underlying132 Iq ?_;refine LT 0 Bd (if bA from' to'%6=0 then .pointer none else .pointer (some ⟨(bs.getD (bA from' to') 0),0,none⟩)) ?_ (hc:=by exact IK bs (k:=bA from' to') (by unfold bA;omega));refine PS ?_;refine nx J4 (ai (WK [0] (av rfl rfl ⟨?_,rfl⟩)))
 by_cases hd:from'=to'
 · rw[if_pos ((tx h8 h12).2 hd)]
   exact Or.inr ⟨by unfold dK;rw[decide_eq_true hd];simp,rfl⟩
 · rw[if_neg (λq=>hd ((tx h8 h12).1 q))]
   exact Or.inl ⟨by unfold dK;rw[h8,h12,decide_eq_false hd];rfl,rfl⟩
 refine PS ?_;refine PS ?_;refine nx J3 (CY (sr λ_ J5=>PS ?_));refine nx J5 (ai (ae (WK [0] (av rfl rfl ?_))));exact⟨Or.inr ⟨by unfold dK;rw[h12];simp,rfl⟩,rfl⟩;refine PS ?_;refine PS ?_
 iterate 3 refine UT ?_
 refine PS ?_;refine nx J3 (CY (sr λ_ J6=>PS ?_));refine nx J6 (ai (ae (WK [0] (av rfl rfl ?_))));exact⟨Or.inr ⟨by unfold dK;rw[h8];simp,rfl⟩,rfl⟩
def sR(W:List (List (List UInt8)))(f t:Int):Bool:=dK f t&&decide ((W.getD (bA f t) []).length<8)
theorem ym(n:Nat)(bs:List Nat)(W:List (List (List UInt8)))(from' to':Int)(x:Value)(by':List UInt8)(hb:by'.length≤1000000)(hW:W.length=25):
 DT 212 #[(.pointer (some ⟨n,0,none⟩)),(.int .i64 (from')),(.int .i64 (to')),x] (IsW x by') [ah n (fa bs) 135,fJ 184 5 bs W] (RI (.bool (sR W from' to')) [ah n (fa bs) 135,fJ 184 5 bs (oS W from' to' by')]):=by
 refine BD 21 Tryz.func212 rfl rfl rfl λw0 F hF=>sr λ_ J1=>PS ?_
 refine nx J1 (sr λ_ J2=>P3 ?_);refine CR Eo (mI n bs from' to') ID λvR HR hR=>?_
 obtain⟨hw,rfl⟩:=hR;rcases hw with⟨hv,rfl⟩| ⟨hv,rfl⟩
 refine PS ?_;refine nx J2 (sr λ_ J3=>PS ?_);refine tp (jm rfl Bd rfl rfl) ?_;refine P3 ?_;refine ck (H':=[hX 184 5 (bs.getD (bA from' to') 0) (W.getD (bA from' to') []),gk 184 5 bs W (bA from' to'),ah n (fa bs) 135]) (λ_ s=>nP hv (aB [1] rfl s)) (CF Ja (uZ (bs.getD (bA from' to') 0) (W.getD (bA from' to') []) x by' hb) ID (λ_ d _=>OR hF d) ?_);refine P2 ?_;refine nx J3 (ai (aF (H':=[ah n (fa bs) 135,fJ 184 5 bs (oS W from' to' by')]) (dd _) (λ_ s=>by unfold oS;rw[if_pos hv];exact aB [1,0] rfl (tw hv hW (aB [0,0,0] rfl s))) (av rfl rfl ?_)));exact⟨by unfold sR;rw[hv];rfl,rfl⟩;refine PS ?_;refine nx J2 (sr λ_ J4=>PS ?_);refine tp (iU rfl Bd rfl rfl) ?_;refine PS ?_
 iterate 3 refine UF ?_
 refine P2 ?_;refine nx J4 (ai (WK [0,0] (av rfl rfl ?_)));exact⟨by unfold sR;rw[hv];rfl,by unfold oS;rw[hv];rfl⟩
theorem AE(n:Nat)(W:List (List (List UInt8)))(from' to':Int)(x:Value)(by':List UInt8)(hb:by'.length≤1000000)(hW:W.length=25):DT 212 #[.pointer (some ⟨n,0,none⟩), .int .i64 from', .int .i64 to',x] (IsW x by') [eG 135 184 5 n W] (RI (.bool (sR W from' to')) [eG 135 184 5 n (oS W from' to' by')]):=
 Leg.Does.pack (B:=[]) λbs=>Leg.Does.fold (ym n bs W from' to' x by' hb hW) λe H hp=>by
  cases e with
  |returned v=>
   obtain⟨rfl,rfl⟩:=hp;exact⟨_,λ_ s=>bn (p:=λbs:List Nat=>[ah n (fa bs) 135,fJ 184 5 bs (oS W from' to' by')]) (H:=[]) bs s,rfl,rfl⟩
  |panicked c=>exact hp.elim
  |outgrown=>exact hp.elim
def jj(f t:Int)(bs:List UInt8):List UInt8:=p6 ([b8 f,b8 t]++bs)
theorem EQ(from' to':Int)(x:Value)(by':List UInt8)(hb:by'.length≤100000):
 DT 218 #[(.int .i64 (from')),(.int .i64 (to')),x] (IsW x by') [] (dh (λv H=>∃u,v=u∧H=[ce u (jj from' to' by') 5])):=by
 refine BD 23 Tryz.func218 rfl rfl rfl λw0 F hF=>sr λ_ J1=>PS ?_
 refine nx J1 (sr λ_ J2=>PS ?_);refine tp (dq rfl fB rfl hF.len) ?_;refine AD ?_;refine TL.makeB (0) (2+by'.length) (aa rfl) rfl rfl rfl fB x9 rfl rfl rfl (by omega) (by omega) (by omega) (λb11=>ck (H':=[ce (.slice (some ⟨b11,0,none⟩) 0 (2+by'.length)) ([]) 5]) (λ_ s=>nr 0 rfl rfl (by omega) (by simp only[maxLen];omega) (by simp[dG]) rfl s) (PS ?_));refine nx J2 (sr λ_ J3=>P2 ?_);refine tp (cE (r:=(((b8 from').toNat:Nat):Int)) rfl Y3 Y5 rfl (vN _)) ?_;refine PS ?_;refine tp (cE (r:=(((b8 to').toNat:Nat):Int)) rfl Y3 Y5 rfl (vN _)) ?_;refine aQ (cells:=#[(.int .u8 ((((b8 from').toNat:Nat):Int))),(.int .u8 ((((b8 to').toNat:Nat):Int)))]) (aa rfl) rfl rfl rfl fB x9 rfl rfl rfl (by as_aux_lemma=>kernel_rfl) (λb17=>ci (k:=1) (news:=dG ([(b8 from'),(b8 to')])) (nn':=([(b8 from'),(b8 to')]:List UInt8).length) (xs':=dG ([(b8 from'),(b8 to')])) (aa rfl) rfl rfl rfl fB x9 rfl rfl rfl rfl rfl rfl (λ_ _=>gS rfl (RO 0) rfl) (eU [(b8 from'),(b8 to')]) (by simp only[maxLen,aw,an];omega) (by simp only[aw,an];omega) (by simp<;>omega) (bI _) (λv18 ov18=>PS ?_));refine nx J3 (sr λ_ J4=>P2 ?_)
 refine ci (k:=1) (news:=dG (by')) (nn':=([(b8 from'),(b8 to')]++by':List UInt8).length) (xs':=dG ([(b8 from'),(b8 to')]++by')) (aa rfl) rfl rfl rfl fB x9 rfl rfl rfl rfl rfl rfl (λ_ _=>hF.src (λ_ h=>ec h)) (eU _) (by simp only[maxLen,af,an,aw];omega) (by simp only[af,an,aw];omega) (by simp<;>omega) (ic _ _).symm (λv21 ov21=>CQ LH (uA v21 ([(b8 from'),(b8 to')]++by') (by simp only[af,an,aw];omega)) ID (λg d s=>Gc (vJ 1 rfl rfl g d s)) λvR HR hR=>?_);have hR:=hR;subst hR;refine PS ?_;exact nx J4 (ai (WK [0] (av rfl rfl ⟨_,rfl,rfl⟩)))
theorem rQ(f t:Int)(bs:List UInt8):(jj f t bs).length=bs.length+6:=by
 unfold jj;rw[kO];simp only[af,an,aw];omega
theorem yq(n:Nat)(W:List (List (List UInt8)))(from' to':Int)(x:Value)(by':List UInt8)(hb:by'.length≤3000)(hW:W.length=25):
 DT 216 #[(.pointer (some ⟨n,0,none⟩)),(.int .i64 (from')),(.int .i64 (to')),x] (IsW x by') [eG 135 184 5 n (W)] (RI (.bool (sR W from' to')) [eG 135 184 5 n (oS W from' to' (jj from' to' by'))]):=by
 refine BD 24 Tryz.func216 rfl rfl rfl λw0 F hF=>?_
 have hfl:(jj from' to' by').length≤1000000:=by rw[rQ];omega
 refine sr λ_ J1=>PS ?_
 refine nx J1 (ab λ_ J2=>sr λ_ J3=>PS ?_);refine tp (iT rfl Kb rfl rfl) ?_;refine P2 ?_;refine tq (dq rfl fB rfl hF.len) ?_;refine PS ?_;refine ao ?_ ?_<;>intro h14
 · exact absurd h14 (by omega)
 refine PS ?_;refine nx J3 (CN (qx J2 (sr λ_ J4=>?_)))
 iterate 6 refine PS ?_
 refine CQ NN (EQ from' to' x by' (by omega)) ID (λ_ d _=>OR hF d) λvR HR hR=>?_
 obtain⟨_,rfl,rfl⟩:=hR;revert vR;intro uf;refine CF NR (AE n W from' to' uf (jj from' to' by') hfl hW) (SM [1]) (λg d s=>Gc (vJ 0 rfl rfl g d s)) ?_;refine PS ?_;exact nx J4 (ai (WK [0] (av rfl rfl ⟨rfl,rfl⟩)))
theorem yr(from' to':Int)(x:Value)(by':List UInt8)(h0:0<by'.length)(hb:by'.length≤100000):
 DT 118 #[(.int .i64 (from')),(.int .i64 (to')),x] (IsW x (jj from' to' by')) [] (dh (λv H=>∃u,v= .tuple #[u, .bool true]∧H=[gC u by' 5])):=by
 refine BD 40 Tryz.func118 rfl rfl rfl λw0 F hF=>?_
 have hfl:(jj from' to' by').length≤1000000000:=by rw[rQ];omega
 refine sr λ_ J1=>P2 ?_
 refine nx J1 (sr λ_ J2=>PS ?_);refine CQ LP (yY x (jj from' to' by') hfl) ID (λ_ d _=>OR hF d) λvR HR hR=>?_
 rcases hR with⟨ht',_,_⟩| ⟨t,u,ht',rfl,rfl⟩
 · exact absurd ht' (by unfold jj;rw[rq];simp)
 obtain rfl:t=([b8 from',b8 to']++by'):=by unfold jj at ht';rw[rq]at ht';exact(cU ht').symm
 refine g9 0 rfl rfl (by simp) (λg cap hv hcap=>?_);have hv2:u= .slice (some ⟨g,0,none⟩) (by'.length+2) cap:=hv;refine P4 ?_;refine PS ?_;refine nx J2 (ab λ_ J3=>sr λ_ J4=>PS ?_);refine PS ?_;refine P2 ?_;refine tq (dq rfl fB rfl (by rw[hv2];exact⟨_,_,rfl⟩)) ?_;refine PS ?_;refine ao ?_ ?_<;>intro h20
 · exact absurd h20 (by omega)
 refine P3 ?_;refine tq (be (r:=0) hv2 rfl fB jF rfl rfl (by omega) (by omega) rfl) ?_;refine tq (ca (v:=(.int .u8 ((((b8 from').toNat:Nat):Int)))) rfl Y5 rfl rfl (fD 0 rfl hv rfl) (rk (l:=([b8 from',b8 to']++by')) (j:=0) (by simp))) ?_;refine PS ?_;refine tq (cE (r:=(((b8 from').toNat:Nat):Int)) rfl Y3 Y5 rfl (vN _)) ?_;refine PS ?_;refine ao ?_ ?_<;>intro h28
 · exact absurd rfl h28
 refine P3 ?_;refine tq (be (r:=1) hv2 rfl fB jF rfl rfl (by omega) (by omega) rfl) ?_;refine tq (ca (v:=(.int .u8 ((((b8 to').toNat:Nat):Int)))) rfl Y5 rfl rfl (fD 0 rfl hv rfl) (rk (l:=([b8 from',b8 to']++by')) (j:=1) (by simp))) ?_;refine PS ?_;refine tq (cE (r:=(((b8 to').toNat:Nat):Int)) rfl Y3 Y5 rfl (vN _)) ?_;refine PS ?_;refine ao ?_ ?_<;>intro h36
 · exact absurd rfl h36
 refine PS ?_;refine nx J4 (CN (qx J3 (sr λ_ J5=>PS ?_)));refine tp (Gb (PV.sliceL (a:=some ⟨g,0,none⟩) (len:=by'.length+2) (cap:=cap) (lo:=2) rfl fB jF (by rw[←hv2];rfl) rfl rfl (by omega)) (congrArg (λq=>jU q 2 (by'.length+2)) hv2.symm)) ?_;refine P2 ?_;exact nx J5 (ai (aF (H':=[gC (jU u 2 (by'.length+2)) by' 5]) (dd _) (λ_ s=>wy 0 rfl rfl hv (by omega) (by simp) (by simp;omega) (by simp) s) (gQ rfl rfl rfl ⟨_,rfl,rfl⟩)))
theorem xh(n:Nat)(bs:List Nat)(W:List (List (List UInt8)))(from' to':Int)(by':List UInt8)(ls:List (List UInt8))(hv:dK from' to'=true)(hW:W.length=25)(hk:W.getD (bA from' to') []=jj from' to' by'::ls)(h0:0<by'.length)(hb:by'.length≤100000):
 DT 80 #[(.pointer (some ⟨n,0,none⟩)),(.int .i64 (from')),(.int .i64 (to'))] T0 [ah n (fa bs) 135,fJ 184 5 bs (W)] (dh (λv H=>∃u,v= .tuple #[u, .bool true]∧H=[ah n (fa bs) 135,fJ 184 5 bs (W.set (bA from' to') ls),gC u by' 5])):=by
 refine BD 32 Tryz.func80 rfl rfl rfl λw0 F hF=>sr λ_ J1=>P2 ?_
 refine nx J1 (ab λ_ J2=>sr λ_ J3=>PS ?_);refine tp (iT rfl Kb rfl rfl) ?_;refine nx J3 (CN (qx J2 (sr λ_ J4=>P3 ?_)));refine CR Eo (mI n bs from' to') ID λvR HR hR=>?_
 obtain⟨hw,rfl⟩:=hR;obtain⟨_,rfl⟩:dK from' to'=true∧vR= .pointer (some ⟨(bs.getD (bA from' to') 0),0,none⟩):=hw.resolve_right (λq=>by rw[hv]at q;cases q.1)
 refine PS ?_;refine nx J4 (ab λ_ J5=>sr λ_ J6=>PS ?_);refine tp (iT rfl Bd rfl rfl) ?_;refine nx J6 (CN (qx J5 (sr λ_ J7=>PS ?_)));refine ck (H':=[hX 184 5 (bs.getD (bA from' to') 0) (W.getD (bA from' to') []),gk 184 5 bs W (bA from' to'),ah n (fa bs) 135]) (λ_ s=>nP hv (aB [1] rfl s)) (CR L3 (th (bs.getD (bA from' to') 0) (W.getD (bA from' to') [])) ID λvR HR hR=>?_);rcases hR with⟨he,_,_⟩| ⟨u,f,ls',he,rfl,rfl⟩
 · rw[he]at hk;cases hk
 rw[hk]at he;obtain⟨rfl,rfl⟩:=List.cons.inj he;refine P4 ?_;refine PS ?_;refine nx J7 (ab λ_ J8=>sr λ_ J9=>PS ?_);refine PS ?_;refine nx J9 (CN (qx J8 (sr λ_ J10=>P3 ?_)));refine CQ On (yr from' to' u by' h0 hb) ID (λg d s=>Gc (AM 1 rfl rfl g d s)) λvR HR hR=>?_
 obtain⟨uv,rfl,rfl⟩:=hR;refine P4 ?_;exact nx J10 (ai (aF (H':=[ah n (fa bs) 135,fJ 184 5 bs (W.set (bA from' to') ls),gC uv by' 5]) (dd _) (λ_ s=>aB [1,0] rfl (tw hv hW (ak [1,2,2,0] rfl s))) (gQ rfl rfl rfl ⟨_,rfl,rfl⟩)))
theorem qZ(n:Nat)(W:List (List (List UInt8)))(from' to':Int)(by':List UInt8)(ls:List (List UInt8))(hv:dK from' to'=true)(hW:W.length=25)(hk:W.getD (bA from' to') []=jj from' to' by'::ls)(h0:0<by'.length)(hb:by'.length≤100000):DT 80 #[.pointer (some ⟨n,0,none⟩), .int .i64 from', .int .i64 to'] T0 [eG 135 184 5 n W] (dh (λv H=>∃u,v= .tuple #[u, .bool true]∧H=[eG 135 184 5 n (W.set (bA from' to') ls),gC u by' 5])):=
 Leg.Does.pack (B:=[]) λbs=>Leg.Does.fold (xh n bs W from' to' by' ls hv hW hk h0 hb) λe H hp=>by
  cases e with
  |returned v=>
   obtain⟨u,rfl,rfl⟩:=hp;exact⟨[eG 135 184 5 n (W.set (bA from' to') ls),gC u by' 5],λ_ s=>bn (p:=λbs:List Nat=>[ah n (fa bs) 135,fJ 184 5 bs (W.set (bA from' to') ls)]) (H:=[gC u by' 5]) bs s,u,rfl,rfl⟩
  |panicked c=>exact hp.elim
  |outgrown=>exact hp.elim
end Go.Proofs.YtfocodjhmkokpaaGreatDoor
end

section
namespace Leg
open Go Codec Api
section
variable {P:Program} {n:Nat} {D:List Deferred} {L:List (Nat×Value)} {S:World→Prop} {o:Oper}
end
def lG(bs:List Nat):List Value:=(List.range 25).map λq=>if q%6=0∨bs.length≤q then .pointer none else .pointer (some ⟨bs.getD q 0,0,none⟩)
theorem zc(bs:List Nat):(lG bs).length=25:=by simp[lG]
theorem GX{bs:List Nat}{b:Nat}(h:bs.length<25)(hd: ¬bs.length%6=0):(lG bs).set bs.length (.pointer (some ⟨b,0,none⟩))=lG (bs++[b]):=by
 refine List.ext_getElem? λj=>?_
 by_cases hj:j=bs.length
 · subst hj
   rw[List.getElem?_set_self (by rw[zc];exact h)];simp[lG,h,hd,List.getD_eq_getElem?_getD]
 · rw[List.getElem?_set_ne (λe=>hj e.symm)]
   simp only[lG,List.getElem?_map];cases hr:(List.range 25)[j]?with
   |none=>rfl
   |some q=>
    have hq:q=j:=by
     by_cases h25:j<25
     · simp[h25]at hr;exact hr.symm
     · simp[h25]at hr
    subst hq;simp only[Option.map_some,af,an,aw];congr 1
    by_cases hlt:q<bs.length
    · simp[show ¬bs.length≤q by omega,show ¬bs.length+1≤q by omega,List.getElem?_append_left hlt]
    · simp[show bs.length≤q by omega,show bs.length+1≤q by omega]
theorem Eg{bs:List Nat}{b:Nat}(hd:bs.length%6=0):lG (bs++[b])=lG bs:=by
 unfold lG;refine eM λq hq=>?_
 rw[af,gm]
 by_cases hq6:q%6=0
 · simp[hq6]
 · by_cases hlt:q<bs.length
   · simp[hq6,show ¬bs.length≤q by omega,show ¬bs.length+1≤q by omega,List.getElem?_append_left hlt]
   · have: ¬q=bs.length:=λe=>hq6 (by rw[e];exact hd)
     simp[show bs.length≤q by omega,show bs.length+1≤q by omega]
theorem GY{bs:List Nat}(h:bs.length=25):lG bs=fa bs:=by
 unfold lG fa;refine eM λq hq=>?_
 rw[dX]at hq;simp[show ¬bs.length≤q by omega]
def o6(T U:Nat)(bs:List Nat)(q:Nat):HP:=if q%6=0 then(λ_=>True)else hX T U (bs.getD q 0) []
def kj(T U:Nat)(bs:List Nat):HP:=bD ((List.range bs.length).map (o6 T U bs))
theorem Fi(T U:Nat){H:List HP}{h:Hl}(s:bD H h):bD (kj T U []::H) h:=⟨em,h,Dw h,(q8 h).symm,trivial,s⟩
theorem Fj(T U:Nat)(bs:List Nat)(b:Nat):(List.range bs.length).map (o6 T U (bs++[b]))=(List.range bs.length).map (o6 T U bs):=
 eM λq hq=>by
  rw[dX]at hq;unfold o6;rw[show(bs++[b]).getD q 0=bs.getD q 0 by simp[List.getElem?_append_left hq]]
theorem uY(T U:Nat)(bs:List Nat)(b:Nat){H:List HP}{h:Hl}(s:bD (o6 T U (bs++[b]) bs.length::kj T U bs::H) h):bD (kj T U (bs++[b])::H) h:=by
 have e:(List.range (bs++[b]).length).map (o6 T U (bs++[b]))=(List.range bs.length).map (o6 T U bs)++[o6 T U (bs++[b]) bs.length]:=by
  rw[af,gm,cV,dB,Fj];rfl
 obtain⟨h1,h2,d,rfl,a,b'⟩:=s;have s2:bD ((o6 T U (bs++[b]) bs.length::(List.range bs.length).map (o6 T U bs))++H) (jn h1 h2):=⟨h1,h2,d,rfl,a,(bZ _ _).2 b'⟩;have p:((o6 T U (bs++[b]) bs.length::(List.range bs.length).map (o6 T U bs))++H).Perm (((List.range bs.length).map (o6 T U bs)++[o6 T U (bs++[b]) bs.length])++H):=(List.perm_append_comm (l₁:=[o6 T U (bs++[b]) bs.length])).append_right H;have s3:=eg p s2;rw[←e]at s3;exact(bZ _ _).1 s3
theorem Dh(T U:Nat)(bs:List Nat)(hd:bs.length%6=0){H:List HP}{h:Hl}(s:bD (kj T U bs::H) h):bD (kj T U (bs++[0])::H) h:=by
 refine uY T U bs 0 ⟨em,h,Dw h,(q8 h).symm,?_,s⟩;unfold o6;rw[if_pos hd];trivial
theorem Fk{T U:Nat}{bs:List Nat}(h:bs.length=25):kj T U bs=fJ T U bs (List.replicate 25 []):=by
 unfold kj fJ pv;rw[h];refine congrArg bD ?_;refine eM λq hq=>?_
 rw[dX]at hq;unfold o6 rc;rw[show(List.replicate 25 ([]:List (List UInt8))).getD q []=[]by rw[List.getD_eq_getElem?_getD,List.getElem?_replicate,if_pos hq];rfl]
end Leg
end

section
namespace Go.Proofs.YtfocodjhmkokpaaGreatDoor
open Go Leg Codec Api Dsk Wal
theorem JJ{T U:Nat}{bs:List Nat}{b:Nat}(h: ¬bs.length%6=0):o6 T U (bs++[b]) bs.length=hX T U b []:=by
 unfold o6;rw[if_neg h,List.getD_eq_getElem?_getD,List.getElem?_append_right (aK _),yM];rfl
theorem Fl{T U:Nat}{bs:List Nat}{b:Nat}(hl: ¬bs.length%6=0){H:List HP}{h:Hl}(s:bD (hX T U b []::kj T U bs::H) h):bD (kj T U (bs++[b])::H) h:=uY T U bs b (by rw[JJ hl];exact s)
theorem Cn:
 DT 41 #[] T0 [] (dh (λv H=>∃n,v= .pointer (some ⟨n,0,none⟩)∧H=[eG 135 184 5 n (List.replicate 25 [])])):=by
 refine Leg.Does.body (vs:=[]) (n:=26) Tryz.func41 rfl rfl rfl (λw0 F hF=>?_);refine sr λ_ J1=>?_
 refine pG ?_;refine nx J1 ?_;refine sr λ_ J2=>?_
 refine tp (jY (cells:=#[(.pointer none),(.pointer none),(.pointer none),(.pointer none),(.pointer none),(.pointer none),(.pointer none),(.pointer none),(.pointer none),(.pointer none),(.pointer none),(.pointer none),(.pointer none),(.pointer none),(.pointer none),(.pointer none),(.pointer none),(.pointer none),(.pointer none),(.pointer none),(.pointer none),(.pointer none),(.pointer none),(.pointer none),(.pointer none)]) rfl rfl (by as_aux_lemma=>kernel_rfl)) ?_;refine TL.box (aa rfl) rfl rfl rfl rfl (λb5=>?_);change TL _ _ _ _ _ _ _ _ _ [ah b5 [(.pointer none),(.pointer none),(.pointer none),(.pointer none),(.pointer none),(.pointer none),(.pointer none),(.pointer none),(.pointer none),(.pointer none),(.pointer none),(.pointer none),(.pointer none),(.pointer none),(.pointer none),(.pointer none),(.pointer none),(.pointer none),(.pointer none),(.pointer none),(.pointer none),(.pointer none),(.pointer none),(.pointer none),(.pointer none)] 135];refine pG ?_;refine nx J2 ?_;refine ab λ_ J3=>?_
 refine sr λ_ J4=>?_
 refine mv ?_;refine nx J4 ?_;refine au ?_
 refine bu (α:=(Nat)×(List Nat)) (λ⟨i,bs⟩=>i≤5∧bs.length=i*5) (λ⟨i,bs⟩=>[(0,(.pointer none)),(1,(.pointer (some ⟨b5,0,none⟩))),(6,(.int .i64 (((i:Nat):Int))))]) (λ⟨i,bs⟩=>[ah b5 (lG (bs)) 135,kj 184 5 (bs)]) (λ⟨i,bs⟩=>5-i) (0,[])
  ⟨aN _,rfl⟩ (aL (aL (bJ rfl (by congr 1) (ng _))))
  (λ_ s=>aB [1,0] rfl (Fi 184 5 s)) (λ⟨i,bs⟩ hinv=>?_)
 obtain⟨hi,hbs⟩:=hinv;refine sr λ_ J5=>?_
 refine tp (Lr rfl rfl rfl) ?_;refine ao (λh7=>?_) (λh7=>?_);refine nx J5 ?_;refine ab λ_ J6=>?_
 refine iS rfl ?_;refine aT ?_;refine ac J6 ?_;refine ab λ_ J7=>?_
 refine au ?_;refine sr λ_ J8=>?_
 refine mv ?_;refine pG ?_;refine nx J8 ?_;refine sr λ_ J9=>?_
 refine mv ?_;refine nx J9 ?_;refine au ?_
 refine bu (α:=(Nat)×(List Nat)) (λ⟨j,bs2⟩=>j≤5∧bs2.length=i*5+j) (λ⟨j,bs2⟩=>[(0,(.pointer none)),(1,(.pointer (some ⟨b5,0,none⟩))),(2,(.int .i64 (((i:Nat):Int)))),(6,(.int .i64 (((i:Nat):Int)))),(9,(.int .i64 (((j:Nat):Int))))]) (λ⟨j,bs2⟩=>[ah b5 (lG (bs2)) 135,kj 184 5 (bs2)]) (λ⟨j,bs2⟩=>5-j) (0,bs)
  ⟨aN _,hbs⟩ (aL (aL (aL (aL (bJ rfl (by congr 1) (ng _))))))
  (λ_ s=>s) (λ⟨j,bs2⟩ hinv=>?_)
 obtain⟨hj,hbl⟩:=hinv;refine sr λ_ J10=>?_
 refine tp (Lr rfl rfl rfl) ?_;refine ao (λh10=>?_) (λh10=>?_);refine nx J10 ?_;refine ab λ_ J11=>?_
 refine iS rfl ?_;refine aT ?_;refine ac J11 ?_;refine ab λ_ J12=>?_
 refine au ?_;refine sr λ_ J13=>?_
 refine mv ?_;refine pG ?_;refine nx J13 ?_;refine sr λ_ J14=>?_
 refine mv ?_;refine mv ?_;refine tp (PV.neq rfl rfl rfl) ?_;refine ao (λh14=>?_) (λh14=>?_);refine nx J14 ?_;refine iS rfl ?_;refine ot (λw=>Frm F w∧True) df rfl (λ_ s=>⟨ec s,trivial⟩) ?_;refine ta 0 rfl (cp rfl rfl) ?_;refine ta 1 rfl (cp rfl rfl) ?_;refine ta 2 rfl (cp rfl rfl) ?_;refine ta 4 rfl (fZ rfl rfl) ?_;refine ta 5 rfl (aZ (r:=0) rfl Tryz.underlying135 rfl Lt rfl rfl) ?_;refine ta 6 rfl (el (r:=i*5) rfl Tryz.underlying133 Lu rfl rfl (by omega) (by omega) (by omega)) ?_;refine cC [3] (by kernel_rfl) rfl ?_;refine aE rfl ?_ ?_;refine hJ (A:=[]) (aa rfl) rfl rfl rfl Pq rfl (Di) (λ_ s=>s) (λ_ _ _=>trivial) (λvR HR hR=>?_);obtain⟨bx,rfl,rfl⟩:=hR;change TL _ _ _ _ _ _ _ _ _ [hX 184 5 bx [],ah b5 (lG (bs2)) 135,kj 184 5 (bs2)];refine aq ?_;refine nf (λ_ s=>⟨ec s,trivial⟩) ?_;refine ta 7 rfl (el (r:=i*5+j) rfl Tryz.underlying132 Iq rfl rfl (by omega) (by omega) (by omega)) ?_;refine cC [8] (by kernel_rfl) rfl ?_;refine aE rfl ?_ ?_;refine bw (i:=1) (H':=[hX 184 5 bx [],ah b5 (lG (bs2++[bx])) 135,kj 184 5 (bs2)]) (aa rfl) rfl rfl rfl rfl rfl Iq rfl rfl (by rw[zc];omega) (by rw[show i*5+j=bs2.length by omega];exact GX (by omega) (by omega)) rfl ?_;refine aq ?_;refine nf (λ_ s=>⟨ec s,trivial⟩) ?_;refine Qf (by kernel_rfl) ?_;refine ag ?_;refine ac J12 ?_;refine ad ?_;refine tp (cq rfl rfl rfl (bF (by omega) (by omega))) ?_;refine mv ?_;refine aq ?_
 exact aJ ((j+1,bs2++[bx]):(Nat)×(List Nat)) ⟨by omega,by rw[af,gm];omega⟩ (by show 5- (j+1)<5-j;omega)
  (aL (aL (aL (aL (bJ rfl (by simp) (ng _))))))
  (λ_ s=>show bD [ah b5 (lG (bs2++[bx])) 135,kj 184 5 (bs2++[bx])] _ from aB [1,0] rfl (Fl (by omega) (ak [0,1,0] rfl s)))
 exact bz;exact bz;refine nx J14 ?_;refine tl rfl ?_;refine aT ?_;refine ag ?_;refine ac J12 ?_;refine ad ?_;refine tp (cq rfl rfl rfl (bF (by omega) (by omega))) ?_;refine mv ?_;refine aq ?_
 exact aJ ((j+1,bs2++[0]):(Nat)×(List Nat)) ⟨by omega,by rw[af,gm];omega⟩ (by show 5- (j+1)<5-j;omega)
  (aL (aL (aL (aL (bJ rfl (by simp) (ng _))))))
  (λ_ s=>show bD [ah b5 (lG (bs2++[0])) 135,kj 184 5 (bs2++[0])] _ by rw[Eg (by omega)];exact aB [1,0] rfl (Dh 184 5 bs2 (by omega) (aB [1,0] rfl s)))
 refine nx J10 ?_;refine ab λ_ J15=>?_
 refine tl rfl ?_;refine aY ?_;refine aC ?_;refine aC ?_;refine bo ?_;refine ag ?_;refine ac J7 ?_;refine ad ?_;refine tp (cq rfl rfl rfl (bF (by omega) (by omega))) ?_;refine mv ?_;refine aq ?_
 exact aJ ((i+1,bs2):(Nat)×(List Nat)) ⟨by omega,by omega⟩ (by show 5- (i+1)<5-i;omega)
  (aL (aL (bJ rfl (by simp) (ng _))))
  (λ_ s=>s)
 refine nx J5 ?_;refine ab λ_ J16=>?_
 refine tl rfl ?_;refine aY ?_;refine aC ?_;refine aC ?_;refine bo ?_;refine ac J3 ?_;refine sr λ_ J17=>?_
 refine mv ?_;refine pG ?_;refine nx J17 ?_;refine ai ?_;refine aF (H':=[eG 135 184 5 b5 (List.replicate 25 [])]) (dd _) (λ_ s=>bn (p:=λbs:List Nat=>[ah b5 (fa bs) 135,fJ 184 5 bs (List.replicate 25 [])]) (H:=[]) bs (by rw[←GY (by omega),←Fk (by omega)];exact s)) ?_;refine av rfl rfl ?_;exact⟨b5,rfl,rfl⟩
end Go.Proofs.YtfocodjhmkokpaaGreatDoor
end

section
namespace Leg
open Go Codec Api
def eL(n:Nat)(D M P:Nat→Value):List Value:= .pointer (some ⟨n,0,none⟩)::((List.range 5).map D++((List.range 5).map M++(List.range 5).map P))
section
variable (n:Nat) (D M P:Nat→Value) {i:Nat}
theorem rT:(eL n D M P).length=16:=by simp[eL]
theorem Db:(eL n D M P)[0]?=some (.pointer (some ⟨n,0,none⟩)):=rfl
theorem Dc(h:i<5):(eL n D M P)[1+i]?=some (D i):=by
 rw[l9,eL,List.getElem?_cons_succ,List.getElem?_append_left (by simpa using h)];simp[h]
theorem xL(h:i<5):(eL n D M P)[6+i]?=some (M i):=by
 rw[show 6+i=(5+i)+1 by omega,eL,List.getElem?_cons_succ,List.getElem?_append_right (by simp),List.getElem?_append_left (by simp;omega)];simp[h]
theorem OE(h:i<5):(eL n D M P)[11+i]?=some (P i):=by
 rw[show 11+i=(10+i)+1 by omega,eL,List.getElem?_cons_succ,List.getElem?_append_right (by simp;omega),List.getElem?_append_right (by simp;omega)];simp only[bM,jo];rw[show 10+i-5-5=i by omega];simp[h]
end
def kZ{α:Type}(f:Nat→α)(i:Nat)(v:α):Nat→α:=λj=>if j=i then v else f j
theorem iW{α:Type}(f:Nat→α)(i:Nat)(v:α):kZ f i v i=v:=if_pos rfl
theorem mL{α:Type}(f:Nat→α){i j:Nat}(v:α)(h:j≠i):kZ f i v j=f j:=if_neg h
theorem AJ{α:Type}(f:Nat→α){i k:Nat}(h:i<k)(v:α):((List.range k).map f).set i v=(List.range k).map (kZ f i v):=by
 refine List.ext_getElem? λj=>?_
 by_cases hj:j=i
 · subst hj
   rw[List.getElem?_set_self (by simpa using h)];simp[h,iW]
 · rw[List.getElem?_set_ne (λe=>hj e.symm)]
   by_cases hk:j<k
   · simp[hk,mL f v hj]
   · simp[hk]
section
variable (n:Nat) (D M P:Nat→Value) {i:Nat} (v:Value)
theorem Lc(h:i<5):(eL n D M P).set (1+i) v=eL n (kZ D i v) M P:=by
 rw[l9,eL,bT,qz _ _ (by simpa using h),AJ D h];rfl
theorem vL(h:i<5):(eL n D M P).set (6+i) v=eL n D (kZ M i v) P:=by
 rw[show 6+i=(5+i)+1 by omega,eL,bT,gl _ _ (by simp),qz _ _ (by simp;omega)];simp only[bM,jo];rw[show 5+i-5=i by omega,AJ M h];rfl
theorem F5(h:i<5):(eL n D M P).set (11+i) v=eL n D M (kZ P i v):=by
 rw[show 11+i=(10+i)+1 by omega,eL,bT,gl _ _ (by simp;omega),gl _ _ (by simp;omega)];simp only[bM,jo];rw[show 10+i-5-5=i by omega,AJ P h];rfl
end
abbrev Nv(c i:Nat):Value:= .agg #[.pointer (some ⟨c,0,none⟩), .int .i64 ((i:Nat):Int)]
end Leg
namespace Go.Proofs.YtfocodjhmkokpaaGreatDoor
open Go Leg Codec Api Dsk Wal
section
variable {CT NT BT U c n d i:Nat} {D M P:Nat→Value} {W:List (List (List UInt8))} {recs:List (List UInt8)} {l:List SaidT} {H:List HP} {h:Hl}
end
end Go.Proofs.YtfocodjhmkokpaaGreatDoor
end
