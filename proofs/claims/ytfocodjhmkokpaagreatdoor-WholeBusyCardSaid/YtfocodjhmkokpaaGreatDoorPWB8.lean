/-
  Joined texts:what a statement's proof reaches.
-/
import Derived.Laws.Externs
import Derived.Test.YtfocodjhmkokpaaGreatDoorPWB7
set_option maxHeartbeats 8000000
set_option maxRecDepth 100000
set_option linter.unusedSimpArgs false
set_option linter.unusedVariables false
section
namespace Leg
open Go
section
variable {P:Program} {w0:World} {F:Hl} {n:Nat} {ops:Array Oper} {Q:QQ} {D:List Deferred} {L:List (Nat×Value)} {H:List HP} {o:Oper} {l:List Oper} {d:Nat} {S:World→Prop}
theorem Ey(bs:List UInt8)(a b:Nat):(⟨bs.toArray⟩:ByteArray).extract a b=⟨((bs.take b).drop a).toArray⟩:=by
 apply ByteArray.ext;simp[ByteArray.data_extract,jH]
theorem PV.strSlice{t:TypeId}{x y z:Operand}{bs:List UInt8}{lo hi:Nat}{k k':IntKind}{i j:Int}(ho:o.op= .slice t x (some y) (some z) none)(ht:P.underlying t=some .string)(hx:cE L x=some (jS bs))(hy:cE L y=some (.int k i))(hz:cE L z=some (.int k' j))
 (hi':i=(lo:Int)) (hj:j=(hi:Int)) (h1:lo≤hi) (h2:hi≤bs.length):PV P n D L S o (jS ((bs.take hi).drop lo)):=
 λb w g _=>by
  subst hi';subst hj;simp only[execOp,ho,g.eval hx,Option.map_some,Option.map_none,g.eval hy,g.eval hz];have hs:=rG bs;simp[Instr.sliceAt,Instr.slice,run_underlying ht,Instr.sliceBounds,Instr.sliceBound,asIntOf,hs,h1,h2,Ey]
theorem PV.strTo{t:TypeId}{x z:Operand}{bs:List UInt8}{hi:Nat}{k':IntKind}{j:Int}(ho:o.op= .slice t x none (some z) none)(ht:P.underlying t=some .string)(hx:cE L x=some (jS bs))(hz:cE L z=some (.int k' j))(hj:j=(hi:Int))(h2:hi≤bs.length):PV P n D L S o (jS (bs.take hi)):=
 λb w g _=>by
  subst hj;simp only[execOp,ho,g.eval hx,Option.map_some,Option.map_none,g.eval hz];have hs:=rG bs;simp[Instr.sliceAt,Instr.slice,run_underlying ht,Instr.sliceBounds,Instr.sliceBound,asIntOf,hs,h2,Ey]
theorem PV.strLen{t:TypeId}{x:Operand}{bs:List UInt8}(ho:o.op= .call {callee:= .builtin .len,args:=#[x],argTypes:=#[t]})(ht:P.underlying t=some .string)(hx:cE L x=some (jS bs)):PV P n D L S o (.int .i64 ((bs.length:Nat):Int)):=λb w g _=>by
 have hs:=rG bs;simp[execOp,ho,resolve,g.eval hx,invoke,builtin,Builtin.len_,run_underlying ht,goInt,hs]
theorem PV.toUnsafe{t t' u e:TypeId}{x:Operand}{b j m:Nat}{cs:List Value}{z:Nat×Nat}(ho:o.op= .convert t t' x)(ht:P.underlying t=some (.pointer u))(ht':P.underlying t'=some .unsafePointer)(hs:(P.info? u).map (·.size)=some (m+1))(hx:cE L x=some (.pointer (some ⟨b,j,none⟩)))
 (hR:Rd S b (.cells cs.toArray e z)) (hj:j<cs.length):PV P n D L S o (.pointer (some ⟨b,j,none⟩)):=λa w g q=>by
 obtain⟨i,hu,hi0⟩:=Option.map_eq_some_iff.1 hs;have hi:i.size≠0:=by rw[hi0];exact Nat.succ_ne_zero m
 have hb:=hR w q;have:=Lib.run_to_unsafe (P:=P) w ⟨b,j,none⟩ ht ht' hu hi (e:=e) (cells:=cs.length) (by simp[World.shape?,hb]) hj;simp[execOp,ho,g.eval hx,this]
theorem PV.ofUnsafe{t t' u e:TypeId}{x:Operand}{b j k:Nat}{cs:List Value}{z:Nat×Nat}(ho:o.op= .convert t t' x)(ht:P.underlying t=some .unsafePointer)(ht':P.underlying t'=some (.pointer u))(hs:(P.info? u).map (·.size)=some k)(hx:cE L x=some (.pointer (some ⟨b,j,none⟩)))
 (hR:Rd S b (.cells cs.toArray e z)) (hl:liesAt P P.depth e (cs.length / P.cellsOf e) j u 1=true):PV P n D L S o (.pointer (some ⟨b,j,none⟩)):=λa w g q=>by
 obtain⟨i,hu,_⟩:=Option.map_eq_some_iff.1 hs;have hb:=hR w q;have:=Lib.run_from_unsafe (P:=P) w ⟨b,j,none⟩ ht ht' hu (e:=e) (cells:=cs.length) (by simp[World.shape?,hb]) hl;simp[execOp,ho,g.eval hx,this]
theorem PV.ptrNeqSame{t t' te k:TypeId}{x y:Operand}{a:Addr}(ho:o.op= .binOp .neq t x y t')(ht:P.underlying t=some (.pointer te))(hs:(P.info? te).map (·.size)=some k)(hx:cE L x=some (.pointer (some a)))(hy:cE L y=some (.pointer (some a))):PV P n D L S o (.bool false):=
 fS ho hx hy (λw=>by
  obtain⟨i,hi,_⟩:=Option.map_eq_some_iff.1 hs;have:=Lib.run_neq_ptr_same (P:=P) w a ht hi
  simpa [eqGuard]using this)
theorem PV.noEscape {f : FuncId} {fn : Func} {x : Operand} {ts : Array TypeId} {v : Value} (ho : o.op = .call { callee := .value (.func f), args := #[x], argTypes := ts }) (hf : P.funcs[f]? = some fn) (hname : (fn.name == "runtime.NumGoroutine") = false) (hb : fn.body.isNone = true) (hn : Extern.findNext fn = none)
 (he:Extern.find fn=some Extern.AbiNoEscape.same) (hx:cE L x=some v):PV P n D L S o v:=λa w g _=>by
 have h:=run_callFunc_extern hf hname hb hn he #[v] w;rw[Lib.run_noEscape]at h;have hr:(callFunc f #[v]).run P w= .ok (.value v) w:=h;have e:(#[x].map a.eval)=#[v]:=by simp[g.eval hx]
 simp only[execOp,ho,resolve];rw[e];simp[Act.eval,Deferred.ofValue,invoke,hr]
end
end Leg
end

section
namespace Go.Proofs.YtfocodjhmkokpaaGreatDoor
open Go Leg Codec Api Dsk Wal
theorem Kv:NM 102:=nk Tryz.func102
theorem K9:NM 64:=nk Tryz.func64
theorem Ol:NM 40:=nk Tryz.func40
theorem Mn:NM 63:=nk Tryz.func63
theorem M9:NM 101:=nk Tryz.func101
theorem MT:NM 137:=nk Tryz.func137
theorem ME:NM 166:=nk Tryz.func166
theorem uD(t c:Nat)(v:Value):
 DT 102 #[(.pointer (some ⟨t,1,none⟩))] T0 [aj t [(.pointer (some ⟨c,0,none⟩)),(.pointer none),v] 102] (c9 (λ_ H=>H=[aj t [(.pointer (some ⟨c,0,none⟩)),(.pointer (some ⟨t,1,none⟩)),v] 102])):=by
 refine BD 20 Tryz.func102 rfl rfl rfl λw0 F hF=>sr λ_ J1=>P2 ?_
 refine FA 1 xL Hi ?_;refine LA 0 KB ?_;refine tp (O8 rfl KB rfl rfl) ?_;refine nx J1 (CY (ad (P2 ?_)));refine tp (PV.toUnsafe rfl KB Tryz.underlying215 vp rfl (RO 0) (lb rfl)) ?_;refine tp (PV.noEscape rfl Tryz.func138 rfl rfl rfl rfl rfl) ?_;refine tp (PV.ofUnsafe rfl Tryz.underlying215 KB vp rfl (RO 0) (by kernel_rfl)) ?_;refine PS ?_;refine FA 1 xL Hi ?_;refine S0 0 Hi ?_;exact ap (WK [0] (br rfl rfl))
theorem uC(t c:Nat)(v:Value):
 DT 102 #[(.pointer (some ⟨t,1,none⟩))] T0 [aj t [(.pointer (some ⟨c,0,none⟩)),(.pointer (some ⟨t,1,none⟩)),v] 102] (c9 (λ_ H=>H=[aj t [(.pointer (some ⟨c,0,none⟩)),(.pointer (some ⟨t,1,none⟩)),v] 102])):=by
 refine BD 20 Tryz.func102 rfl rfl rfl λw0 F hF=>sr λ_ J1=>P2 ?_
 refine FA 1 xL Hi ?_;refine LA 0 KB ?_;refine tp (fG rfl KB rfl rfl) ?_;refine nx J1 (CN (sr λ_ J2=>P2 ?_));refine FA 1 xL Hi ?_;refine LA 0 KB ?_;refine PS ?_;refine tp (PV.ptrNeqSame rfl KB vp rfl rfl) ?_;exact nx J2 (CN (aM (WK [0] (br rfl rfl))))
theorem At(t c:Nat)(v:Value)(bs ys:List UInt8)(hv:v.oneCell'=true)(hb:bs.length+ys.length≤1000000):
 DT 64 #[(.pointer (some ⟨t,1,none⟩)),(jS (ys))] T0 [aj t [(.pointer (some ⟨c,0,none⟩)),(.pointer none),v] 102,cu v (bs) 5] (c9 (λ_ H=>∃v',v'.oneCell'=true∧H=[aj t [(.pointer (some ⟨c,0,none⟩)),(.pointer (some ⟨t,1,none⟩)),v'] 102,cu v' (bs++ys) 5])):=by
 refine BD 19 Tryz.func64 rfl rfl rfl λw0 F hF=>sr λ_ J1=>P2 ?_
 refine nx J1 (sr λ_ J2=>PS ?_);refine CZ Kv (uD t c v) ID λvR=>?_
 refine nx J2 (sr λ_ J3=>P3 ?_);refine FA 2 xL kj ?_;refine LA 0 e8 ?_;refine PS ?_;refine TL.appendT (k:=1) (bs:=bs) (ys:=ys) (ab rfl) rfl rfl rfl e8 Y9 sH rfl rfl rfl rfl (by simp only[maxLen];omega) (by omega) (λv14 ov14=>PS ?_);refine FA 2 xL kj ?_;refine bB (i:=0) (ab rfl) rfl rfl rfl rfl ov14 kj rfl rfl (lb rfl) rfl rfl (nx J3 (sr λ_ J4=>PS ?_));refine tp (PV.strLen rfl Y9 rfl) ?_;refine P2 ?_;exact nx J4 (ah (WK [0,0] (gJ rfl rfl rfl ⟨_,ov14,rfl⟩)))
theorem As(t c:Nat)(v:Value)(bs ys:List UInt8)(hv:v.oneCell'=true)(hb:bs.length+ys.length≤1000000):
 DT 64 #[(.pointer (some ⟨t,1,none⟩)),(jS (ys))] T0 [aj t [(.pointer (some ⟨c,0,none⟩)),(.pointer (some ⟨t,1,none⟩)),v] 102,cu v (bs) 5] (c9 (λ_ H=>∃v',v'.oneCell'=true∧H=[aj t [(.pointer (some ⟨c,0,none⟩)),(.pointer (some ⟨t,1,none⟩)),v'] 102,cu v' (bs++ys) 5])):=by
 refine BD 19 Tryz.func64 rfl rfl rfl λw0 F hF=>sr λ_ J1=>P2 ?_
 refine nx J1 (sr λ_ J2=>PS ?_);refine CZ Kv (uC t c v) ID λvR=>?_
 refine nx J2 (sr λ_ J3=>P3 ?_);refine FA 2 xL kj ?_;refine LA 0 e8 ?_;refine PS ?_;refine TL.appendT (k:=1) (bs:=bs) (ys:=ys) (ab rfl) rfl rfl rfl e8 Y9 sH rfl rfl rfl rfl (by simp only[maxLen];omega) (by omega) (λv14 ov14=>PS ?_);refine FA 2 xL kj ?_;refine bB (i:=0) (ab rfl) rfl rfl rfl rfl ov14 kj rfl rfl (lb rfl) rfl rfl (nx J3 (sr λ_ J4=>PS ?_));refine tp (PV.strLen rfl Y9 rfl) ?_;refine P2 ?_;exact nx J4 (ah (WK [0,0] (gJ rfl rfl rfl ⟨_,ov14,rfl⟩)))
theorem zj(t c g cap:Nat)(bs:List UInt8)(hpos:0<bs.length)(hb:bs.length≤1000000)(hcap:0<cap):
 DT 40 #[(.pointer (some ⟨t,1,none⟩))] T0 [aj t [(.pointer (some ⟨c,0,none⟩)),(.pointer (some ⟨t,1,none⟩)),(.slice (some ⟨g,0,none⟩) (bs.length) (cap))] 102,cu (.slice (some ⟨g,0,none⟩) (bs.length) (cap)) (bs) 5] (RI (jS bs) [aj t [(.pointer (some ⟨c,0,none⟩)),(.pointer (some ⟨t,1,none⟩)),(.slice (some ⟨g,0,none⟩) (bs.length) (cap))] 102]):=by
 refine BD 14 Tryz.func40 rfl rfl rfl λw0 F hF=>sr λ_ J1=>PS ?_
 refine nx J1 (aa λ_ J2=>D1 0 cN ?_);refine PD 0 ?_;refine PD 1 ?_;refine FD 2 2 xL kj ?_;refine LX 3 e8 (.slice (some ⟨g,0,none⟩) (bs.length) (cap)) ?_ (hc:=by exact rfl);refine ta 4 rfl (PV.sliceData rfl rfl hcap) ?_;refine PD 5 ?_;refine PD 6 ?_;refine FD 7 2 xL kj ?_;refine LX 8 e8 (.slice (some ⟨g,0,none⟩) (bs.length) (cap)) ?_ (hc:=by exact rfl);refine ta 9 rfl (pR rfl e8 rfl) ?_;refine AL 10 ?_;refine TL.unsafeStr (k:=1) (bs:=bs) (ab rfl) rfl rfl rfl Tryz.underlying130 (by kernel_rfl) rfl rfl rfl rfl hpos (by omega) (EN (PD 11 ?_));exact DN (ac J2 (ah (WK [0] (av rfl rfl ⟨rfl,rfl⟩))))
theorem AN(t c:Nat)(v:Value)(bs:List UInt8)(hpos:0<bs.length)(hb:bs.length≤1000000):DT 40 #[.pointer (some ⟨t,1,none⟩)] T0 [aj t [(.pointer (some ⟨c,0,none⟩)),(.pointer (some ⟨t,1,none⟩)),v] 102,cu v bs 5] (RI (jS bs) [aj t [(.pointer (some ⟨c,0,none⟩)),(.pointer (some ⟨t,1,none⟩)),v] 102]):=
 Leg.Does.ex (A':=λx: {x:Nat×Nat // 0<x.2∧v= .slice (some ⟨x.1,0,none⟩) bs.length x.2}=>[aj t [(.pointer (some ⟨c,0,none⟩)),(.pointer (some ⟨t,1,none⟩)),v] 102,cu v bs 5]) (λh s=>by
  obtain⟨h1,h2,_,_,a,_⟩:=dV 1 (lb rfl) s;obtain⟨_,⟨_,h0,_⟩| ⟨g,cap,cur,hv,_,hle,_⟩⟩:=a
  · omega
  · exact⟨⟨(g,cap),by show 0<cap;omega,hv⟩,s⟩) λ⟨x,hx,hv⟩=>by
  subst hv;exact zj t c x.1 x.2 bs hpos hb hx
def l7(n:Nat):List UInt8:=[UInt8.ofNat (48+n)]
theorem Lq{n:Nat}(hn:((n:Nat):Int)<10):(([48,49,50,51,52,53,54,55,56,57,97,98,99,100,101,102,103,104,105,106,107,108,109,110,111,112,113,114,115,116,117,118,119,120,121,122]:List UInt8).take (n+1)).drop n=l7 n:=by
 match n,hn with
 |0,_|1,_|2,_|3,_|4,_|5,_|6,_|7,_|8,_|9,_=>rfl
 |k+10,h=>omega
theorem Gs(n:Nat)(hn:((n:Nat):Int)<10):
 DT 166 #[(.int .i64 (((n:Nat):Int)))] T0 [] (RI (jS (l7 n)) []):=by
 refine BD 15 Tryz.func166 rfl rfl rfl λw0 F hF=>sr λ_ J1=>PS ?_
 refine nx J1 (aa λ_ J2=>sr λ_ J3=>P2 ?_);refine ao ?_ ?_<;>intro h4;refine nx J3 (CY (sr λ_ J4=>P2 ?_));refine AD ?_;refine tp (kB (PV.strSlice (bs:=[48,49,50,51,52,53,54,55,56,57,97,98,99,100,101,102,103,104,105,106,107,108,109,110,111,112,113,114,115,116,117,118,119,120,121,122]) (lo:=n) (hi:=n+1) rfl Y9 rfl rfl rfl rfl (by omega) (by omega) (by simp;omega)) (congrArg (λl:List UInt8=>jS l) (Lq hn))) ?_;refine PS ?_;exact nx J4 (ah (ae (WK [] (av rfl rfl ⟨rfl,rfl⟩))))
 · exact absurd hn h4
theorem wG(n:Nat)(hn:((n:Nat):Int)<10):
 DT 137 #[(.int .i64 (((n:Nat):Int))),(.int .i64 10)] T0 [] (RI (jS (l7 n)) []):=by
 refine BD 54 Tryz.func137 rfl rfl rfl λw0 F hF=>sr λ_ J1=>PS ?_
 refine nx J1 (aa λ_ J2=>sr λ_ J3=>P2 ?_);refine nx J3 (CY (aa λ_ J4=>sr λ_ J5=>P2 ?_));refine ao ?_ ?_<;>intro h13;refine P3 ?_;refine ao ?_ ?_<;>intro h16;refine PS ?_;refine nx J5 (CY (sr λ_ J6=>PS ?_));refine CE ME (Gs n hn) ID ?_;refine PS ?_;exact nx J6 (ah (ae (ae (WK [] (av rfl rfl ⟨rfl,rfl⟩)))))
 · exact absurd (show((n:Nat):Int)<100 by omega) h16
 · exact absurd (Int.natCast_nonneg n) h13
theorem DH(n:Nat)(hn:((n:Nat):Int)<10):
 DT 101 #[(.int .i64 (((n:Nat):Int)))] T0 [] (RI (jS (l7 n)) []):=by
 refine BD 5 Tryz.func101 rfl rfl rfl λw0 F hF=>sr λ_ J1=>PS ?_
 refine nx J1 (sr λ_ J2=>PS ?_);refine CE MT (wG n hn) ID ?_;refine PS ?_;exact nx J2 (ah (WK [] (av rfl rfl ⟨rfl,rfl⟩)))
theorem yI(n:Nat)(hn:((n:Nat):Int)<10):
 DT 63 #[(.int .i64 (((n:Nat):Int)))] T0 [] (RI (jS (l7 n)) []):=by
 refine BD 5 Tryz.func63 rfl rfl rfl λw0 F hF=>sr λ_ J1=>PS ?_
 refine nx J1 (sr λ_ J2=>PS ?_);refine CE M9 (DH n hn) ID ?_;refine PS ?_;exact nx J2 (ah (WK [] (av rfl rfl ⟨rfl,rfl⟩)))
theorem qu(t c:Nat)(A v:Value)(bs ys:List UInt8)(hA:A= .pointer none∨A= .pointer (some ⟨t,1,none⟩))(hv:v.oneCell'=true)(hb:bs.length+ys.length≤1000000):DT 64 #[.pointer (some ⟨t,1,none⟩),jS ys] T0 [aj t [.pointer (some ⟨c,0,none⟩),A,v] 102,cu v bs 5] (c9 (λ_ H=>∃v',v'.oneCell'=true∧H=[aj t [.pointer (some ⟨c,0,none⟩), .pointer (some ⟨t,1,none⟩),v'] 102,cu v' (bs++ys) 5])):=by
 rcases hA with rfl|rfl
 · exact At t c v bs ys hv hb
 · exact As t c v bs ys hv hb
def tm(n:Int):List UInt8:=l7 n.toNat
theorem DG(n:Int)(h0:0≤n)(h1:n<10):DT 63 #[.int .i64 n] T0 [] (RI (jS (tm n)) []):=by
 obtain⟨m,rfl⟩:=Int.eq_ofNat_of_zero_le h0;exact yI m h1
def mE(l:List Int):List UInt8:=l.flatMap λn=>32::tm n
def tU(ws:List UInt8)(l:List Int):List UInt8:=ws++mE l++[10]
theorem p3: ∀l,(mE l).length=2*l.length
 | []=>rfl
 |n::l=>by
  have:=p3 l;show(32::tm n++mE l).length=_;simp only[ag,aw,tm,l7,az];omega
theorem Do(l:List Int){k:Nat}(h:k<l.length):mE (l.take (k+1))=mE (l.take k)++([32]++tm (l.getD k 0)):=by
 unfold mE;rw[bF h,mf];simp[List.getD_eq_getElem?_getD,h]
theorem List.getD_mem'{l:List Int}{k:Nat}(h:k<l.length):l.getD k 0∈l:=by
 rw[List.getD_eq_getElem?_getD,List.getElem?_eq_getElem h];exact eW h
theorem tg(t c:Nat)(A v x:Value)(bs ws:List UInt8)(l:List Int)(hA:A= .pointer none∨A= .pointer (some ⟨t,1,none⟩))(hv:v.oneCell'=true)(hd: ∀n∈l,0≤n∧n<10)(hb:bs.length+ws.length+2*l.length+1≤1000000):
 DT 39 #[(.pointer (some ⟨t,0,none⟩)),(jS (ws)),x] (IsI .i64 x l) [aj t [(.pointer (some ⟨c,0,none⟩)),A,v] 102,cu v (bs) 5] (c9 (λ_ H=>∃v',v'.oneCell'=true∧H=[aj t [(.pointer (some ⟨c,0,none⟩)),(.pointer (some ⟨t,1,none⟩)),v'] 102,cu v' (bs++tU ws l) 5])):=by
 refine BD 31 Tryz.func39 rfl rfl rfl λw0 F hF=>sr λ_ J1=>P2 ?_
 refine FA 1 En vp ?_;refine PS ?_;refine CR K9 (qu t c A v (bs) (ws) hA hv (by first|omega| (simp only[ag,aw,az,p3,bq,tm,l7];omega))) ID λvR HR hR=>?_
 obtain⟨w1,hw1,rfl⟩:=hR;refine nx J1 (aa λ_ J2=>sr λ_ J3=>PS ?_);refine tp (c8 rfl ii rfl hF.len) ?_;refine PS ?_;refine nx J3 (am ?_)
 refine bu (α:=(Nat)×(Value)) (λ⟨k,v2⟩=>k≤l.length∧v2.oneCell'=true) (λ⟨k,v2⟩=>[(0,(.pointer (some ⟨t,0,none⟩))),(13,x),(14,(.int .i64 (((l.length:Nat):Int)))),(15,(.int .i64 (((k:Nat):Int))))]) (λ⟨k,v2⟩=>[aj t [(.pointer (some ⟨c,0,none⟩)),(.pointer (some ⟨t,1,none⟩)),v2] 102,cu v2 (bs++ws++mE (l.take k)) 5]) (λ⟨k,v2⟩=>l.length-k) (0,w1)
  ⟨aN _,hw1⟩ SB
  (λ_ s=>by show bK [aj t [(.pointer (some ⟨c,0,none⟩)),(.pointer (some ⟨t,1,none⟩)),w1] 102,cu w1 (bs++ws++mE (l.take 0)) 5] _;rw[show bs++ws++mE (l.take 0)=bs++ws from a8 _];exact s) (λ⟨k,v2⟩ hinv=>?_)
 obtain⟨hk,hv2⟩:=hinv;refine sr λ_ J4=>PS ?_
 refine ao ?_ ?_<;>intro h16;obtain⟨b_a,off_a,cap_a,cs_a,T_a,z_a,hv_a,hb_a,hcs_a,hcp_a⟩:=IsI.at hF (j:=k) (by omega);have hkl:k<l.length:=by omega
 refine nx J4 (aa λ_ J5=>CY (qx J5 (aa λ_ J6=>am (sr λ_ J7=>tp (bg (r:=off_a+k) hv_a rfl ii aO rfl rfl (by omega) (by omega) (by omega)) ?_))));refine tp (bZ (v:=(.int .i64 ((l.getD k 0)))) rfl Y3 rfl rfl (iV hb_a (λ_ h=>dG h)) hcs_a) ?_;refine PS ?_;refine nx J7 (D0 cN ?_);refine PD 0 ?_;refine PD 1 ?_;refine FD 2 1 En vp ?_;refine PD 3 ?_;refine AL 4 ?_;refine CE Mn (DG (l.getD k 0) (hd (l.getD k 0) (List.getD_mem' hkl)).1 (hd (l.getD k 0) (List.getD_mem' hkl)).2) ID ?_;refine EN (ta 5 rfl (OX (a:=[32]) (b:=tm (l.getD k 0)) rfl rfl rfl (by simp[tm,l7])) ?_);refine AL 6 ?_;refine CR K9 (qu t c (.pointer (some ⟨t,1,none⟩)) v2 (bs++ws++mE (l.take k)) ([32]++tm (l.getD k 0)) (Or.inr rfl) hv2 (by first|omega| (simp only[ag,aw,az,p3,bq,tm,l7];omega))) ID λvR HR hR=>?_
 obtain⟨w2,hw2,rfl⟩:=hR;refine EN (DN (af (ac J6 (ad (AD ?_)))));refine PS ?_;refine ap ?_
 exact aJ ((k+1,w2):(Nat)×(Value)) ⟨by omega,hw2⟩ (by show l.length- (k+1)<l.length-k;omega)
  SB
  (λ_ s=>by show bK [aj t [(.pointer (some ⟨c,0,none⟩)),(.pointer (some ⟨t,1,none⟩)),w2] 102,cu w2 (bs++ws++mE (l.take (k+1))) 5] _;rw[Do l (show k<l.length by omega),←aZ];exact s)
 refine nx J4 (aa λ_ J8=>CN (aV (ay (ay (bh (ac J2 (ad (P2 ?_))))))));refine FA 1 En vp ?_;refine CR K9 (qu t c (.pointer (some ⟨t,1,none⟩)) v2 (bs++ws++mE (l.take k)) ([10]) (Or.inr rfl) hv2 (by first|omega| (simp only[ag,aw,az,p3,bq,tm,l7];omega))) ID λvR HR hR=>?_
 obtain⟨w2,hw2,rfl⟩:=hR;exact ap (aF (H':=[aj t [(.pointer (some ⟨c,0,none⟩)),(.pointer (some ⟨t,1,none⟩)),w2] 102,cu w2 (bs++tU ws l) 5]) (cZ _) (λ_ s=>by rw[show bs++tU ws l=bs++ws++mE (l.take k)++[10]by rw[aC (by omega)];simp[tU]];exact s) (br rfl ⟨_,hw2,rfl⟩))
theorem BA(c n i:Nat)(D M P:Nat→Value)(hi:i<5)(hM:M i= .pointer none):
 DT 11 #[(.pointer (some ⟨c,0,none⟩)),(.int .i64 (((i:Nat):Int)))] T0 [aj c (eG n D M P) 73] (RI (.pointer none) [aj c (eG n D M P) 73]):=by
 refine BD 15 Tryz.func11 rfl rfl rfl λw0 F hF=>sr λ_ J1=>PS ?_
 refine nx J1 (aa λ_ J2=>sr λ_ J3=>P2 ?_);refine CE Bt (rA c n i D M P hi hM) ID ?_;refine PS ?_;refine nx J3 (CY (sr λ_ J4=>PS ?_));exact nx J4 (ah (ae (WK [0] (av rfl rfl ⟨rfl,rfl⟩))))
theorem Bz(c n i:Nat)(D M P:Nat→Value)(hi:i<5)(d r:Nat)(e:DS)(hD:D i= .pointer (some ⟨d,0,none⟩))(hM:M i= .pointer (some ⟨r,0,none⟩)):
 DT 11 #[(.pointer (some ⟨c,0,none⟩)),(.int .i64 (((i:Nat):Int)))] T0 [aj c (eG n D M P) 73,dk d e] (c9 (λv H=>((e.dn=false∧v= .pointer (some ⟨r,0,none⟩))∨(e.dn=true∧v= .pointer none))∧H=[aj c (eG n D M P) 73,dk d e])):=by
 refine BD 15 Tryz.func11 rfl rfl rfl λw0 F hF=>sr λ_ J1=>PS ?_
 refine nx J1 (aa λ_ J2=>sr λ_ J3=>P2 ?_);refine CE Bt (rz c n i D M P hi d r e hD hM) ID ?_;refine bc ?_ ?_<;>intro h7;refine PS ?_;refine nx J3 (CN (qx J2 (sr λ_ J4=>P3 ?_)));refine FA 6 oV oL ?_;refine IX (6+i) qd gY ?_;refine LT 0 nS (.pointer (some ⟨r,0,none⟩)) ?_ (hc:=by exact(wR n D M P hi).trans (congrArg some hM));refine PS ?_;refine nx J4 (ah (WK [0,0] (av rfl rfl ?_)));exact⟨.inl ⟨(by simpa using h7),rfl⟩,rfl⟩;refine PS ?_;refine nx J3 (CY (sr λ_ J5=>PS ?_));refine nx J5 (ah (ae (WK [0,0] (av rfl rfl ?_))));exact⟨.inr ⟨(by simpa using h7),rfl⟩,rfl⟩
abbrev zn(c:Nat)(a:CL)(i:Nat)(g:CX):List HP:=aj c (eG g.n (l8 g) (jy a g.r) g.p) 73::eg 135 184 5 g.n (cK a.W)::kl (a.at' i) (g.d i) (g.r i) (g.p i)
def dB(c:Nat)(a:CL)(g:CX):HP:=bK (pI c a g)
theorem F4{α:Type}(A B C:List α):((A++B)++C).Perm ((A++C)++B):=by
 rw[aZ,aZ];exact List.Perm.append_left _ List.perm_append_comm
section
variable {f:FuncId} {args:Array Value} {c i:Nat} {a:CL} {g:CX}
theorem Is{h:Hl}(s:bK [fh c a] h): ∃g,bK [dB c a g] h:=by
 obtain⟨g,s⟩:=e5 s;exact⟨g,(bY (pI c a g) []).1 s⟩
theorem GH{H:List HP}{h:Hl}(s:bK (fh c a::H) h): ∃g,bK (dB c a g::H) h:=by
 obtain⟨h1,h2,d,e,⟨g,t⟩,s2⟩:=s;exact⟨g,h1,h2,d,e,t,s2⟩
theorem GI{H:List HP}{h:Hl}(s:bK (dB c a g::H) h):bK (fh c a::H) h:=cD s (λ_ t=>⟨g,t⟩) λ_ t=>t
theorem FF(hi:i<5){h:Hl}(s:bK [dB c a g] h):bK (zn c a i g++[bK (((List.range 5).map λi=>km (a.at' i) (g.d i) (g.r i) (g.p i)).eraseIdx i)]) h:=by
 have s0:bK (pI c a g++[]) h:=(bY _ _).2 s;have s2:=yr (f:=λi=>km (a.at' i) (g.d i) (g.r i) (g.p i)) hi (aA [2,0,0] rfl s0);have s3:=(bY (kl (a.at' i) (g.d i) (g.r i) (g.p i)) _).2 s2;exact aA [4,4,0,0,0,0] rfl s3
theorem FE(hi:i<5){h:Hl}(s:bK (zn c a i g++[bK (((List.range 5).map λi=>km (a.at' i) (g.d i) (g.r i) (g.p i)).eraseIdx i)]) h):bK [dB c a g] h:=by
 have s1:=aA [2,2,2,2,0,0] rfl s;have s2:=(bY (kl (a.at' i) (g.d i) (g.r i) (g.p i)) _).1 s1;have s3:=yq (f:=λi=>km (a.at' i) (g.d i) (g.r i) (g.p i)) (g:=λi=>km (a.at' i) (g.d i) (g.r i) (g.p i)) hi (λ_ _=>rfl) s2;exact(bY (pI c a g) []).1 (aA [1,1,0] rfl s3)
theorem E3{Q:Value→List HP→Prop}(hi:i<5)(core:DT f args T0 (zn c a i g) (c9 λv H=>∃X,Q v X∧H=zn c a i g++X)):
 DT f args T0 [dB c a g] (c9 λv H=>∃X,Q v X∧H=dB c a g::X):=by
 refine Leg.Does.withinR (B:=[bK (((List.range 5).map λi=>km (a.at' i) (g.d i) (g.r i) (g.p i)).eraseIdx i)]) core (λ_ _ _ _=>trivial) (λh s=>FF hi s) λv H hp=>?_
 obtain⟨X,hQ,rfl⟩:=hp;refine⟨_,λh s=>?_,X,hQ,rfl⟩;have s1:=(bY _ X).1 (dY (F4 (zn c a i g) X [bK (((List.range 5).map λi=>km (a.at' i) (g.d i) (g.r i) (g.p i)).eraseIdx i)]) s);exact(bY [dB c a g] X).2 (cD s1 (λh t=>FE hi t) λ_ t=>t)
theorem Iq{Q:Value→Prop}(hi:i<5)(core:DT f args T0 (zn c a i g) (c9 λv H=>Q v∧H=zn c a i g)):
 DT f args T0 [dB c a g] (c9 λv H=>Q v∧H=[dB c a g]):=
 lI (E3 (Q:=λv X=>Q v∧X=[]) hi (lI core λv H hp=>by
  obtain⟨h1,rfl⟩:=hp
  exact⟨[],⟨h1,rfl⟩,(a8 _).symm⟩)) λv H hp=>by
  obtain⟨X,⟨h1,rfl⟩,rfl⟩:=hp;exact⟨h1,rfl⟩
theorem I6{x:Slot}{s:MS LD}(h:x.run=some s):x.up= !s.e.D.dn:=by unfold Slot.up;rw[h]
theorem Es{x:Slot}(h:x.run=none):x.up=false:=by unfold Slot.up;rw[h]
theorem sX{s:MS LD}(hs:(a.at' i).run=some s):zn c a i g=[aj c (eG g.n (l8 g) (jy a g.r) g.p) 73,eg 135 184 5 g.n (cK a.W),dk (g.d i) s.e.D,kF (g.p i) (a.at' i).past,fA s (g.d i) (g.r i)]:=by
 unfold zn kl Slot.dk p9;rw[hs]
def BB(a:CL)(g:CX)(i:Nat):Value:=if(a.at' i).up then .pointer (some ⟨g.r i,0,none⟩)else .pointer none
theorem Dy(hi:i<5):DT 11 #[.pointer (some ⟨c,0,none⟩), .int .i64 ((i:Nat):Int)] T0 [dB c a g] (c9 λv H=>v=BB a g i∧H=[dB c a g]):=by
 refine Iq (Q:=λv=>v=BB a g i) hi ?_;unfold BB;cases hr:(a.at' i).run with
 |none=>
  rw[Es hr];refine Leg.Does.withinR (A:=[aj c (eG g.n (l8 g) (jy a g.r) g.p) 73]) (B:=eg 135 184 5 g.n (cK a.W)::kl (a.at' i) (g.d i) (g.r i) (g.p i)) (BA c g.n i (l8 g) (jy a g.r) g.p hi (mJ hr)) (λ_ _ _ _=>trivial) (λh s=>s) λv H hp=>?_
  obtain⟨rfl,rfl⟩:=hp;exact⟨_,λh s=>s,rfl,rfl⟩
 |some s=>
  rw[I6 hr,sX hr];refine Leg.Does.withinR (B:=[eg 135 184 5 g.n (cK a.W),kF (g.p i) (a.at' i).past,fA s (g.d i) (g.r i)]) (Bz c g.n i (l8 g) (jy a g.r) g.p hi (g.d i) (g.r i) s.e.D rfl (sc hr)) (λ_ _ _ _=>trivial) (λh s=>aA [0,1,0,0,0] rfl s) λv H hp=>?_
  obtain⟨hv,rfl⟩:=hp;refine⟨_,λh s=>aA [0,1,0,0,0] rfl s,?_,rfl⟩;rcases hv with⟨h1,rfl⟩| ⟨h1,rfl⟩<;>rw[h1]<;>rfl
theorem n6{n:Nat}(h:CLOk n a)(hn:n≤100000)(hi:i<5):DT 15 #[.pointer (some ⟨c,0,none⟩), .int .i64 ((i:Nat):Int)] T0 [dB c a g] (c9 λv H=>∃u,u.oneCell'=true∧v=u∧H=[dB c a g,kF u (a.at' i).reps]):=by
 refine lI (E3 (Q:=λv X=>v.oneCell'=true∧X=[kF v (a.at' i).reps]) hi ?_) λv H hp=>by
  obtain⟨X,⟨h1,rfl⟩,rfl⟩:=hp;exact⟨v,h1,rfl,rfl⟩
 have hl:=(h.at' i hi).reps;unfold Slot.reps at hl ⊢;cases hr:(a.at' i).run with
 |none=>
  rw[hr]at hl;simp only[a8]at hl ⊢;refine Leg.Does.withinR (A:=[aj c (eG g.n (l8 g) (jy a g.r) g.p) 73,kF (g.p i) (a.at' i).past]) (B:=[eg 135 184 5 g.n (cK a.W),dk (g.d i) (a.at' i).dk,p9 (a.at' i) (g.d i) (g.r i)]) (vQ c g.n i (l8 g) (jy a g.r) g.p hi (mJ hr) (a.at' i).past (by omega)) (λ_ _ _ _=>trivial) (λh s=>aA [0,2,0,0,0] rfl s) λv H hp=>?_
  obtain⟨u,hu,rfl,rfl⟩:=hp;exact⟨_,λh s=>aA [0,2,2,0,1,0] rfl s,[kF v (a.at' i).past],⟨hu,rfl⟩,rfl⟩
 |some s=>
  rw[hr]at hl;simp only[ag]at hl;rw[sX hr];refine Leg.Does.withinR (B:=[eg 135 184 5 g.n (cK a.W),dk (g.d i) s.e.D]) (vO c g.n i (l8 g) (jy a g.r) g.p hi (g.d i) (g.r i) s (sc hr) (a.at' i).past (by omega) (by omega)) (λ_ _ _ _=>trivial) (λh s=>aA [0,2,2,0,0] rfl s) λv H hp=>?_
  obtain⟨u,hu,rfl,rfl⟩:=hp;exact⟨_,λh s=>aA [0,3,3,0,0,0] rfl s,[kF v ((a.at' i).past++s.replies)],⟨hu,rfl⟩,rfl⟩
theorem sd{s:MS LD}{Q:Value→Prop}(hi:i<5)(hs:(a.at' i).run=some s)(hf:DT f args T0 [fA s (g.d i) (g.r i)] (c9 λv H=>Q v∧H=[fA s (g.d i) (g.r i)])):DT f args T0 [dB c a g] (c9 λv H=>Q v∧H=[dB c a g]):=by
 refine Iq hi ?_;rw[sX hs];refine Leg.Does.withinR (B:=[aj c (eG g.n (l8 g) (jy a g.r) g.p) 73,eg 135 184 5 g.n (cK a.W),dk (g.d i) s.e.D,kF (g.p i) (a.at' i).past]) hf (λ_ _ _ _=>trivial) (λh q=>aA [4,0,0,0,0] rfl q) λv H hp=>?_
 obtain⟨hQ,rfl⟩:=hp;exact⟨_,λh q=>aA [1,1,1,1,0] rfl q,hQ,rfl⟩
theorem rM{s:MS LD}{d r:Nat}{v0:RepT→Value}(hf: ∀x,DT f args T0 [aj r (RepT.cells x) 87] (c9 λv H=>v=v0 x∧H=[aj r (RepT.cells x) 87])){w:Value}(hv: ∀a,v0 (s.rep a)=w):DT f args T0 [fA s d r] (c9 λv H=>v=w∧H=[fA s d r]):=
 Leg.Does.pack (B:=[]) λx=>Leg.Does.withinR (A:=[aj r (RepT.cells (s.rep x)) 87]) (B:=[EU x.lg d ((s.e.cnt:Nat):Int) s.e.used,kF x.rs s.replies,Er x.vo s.vote]) (hf (s.rep x)) (λ_ _ _ _=>trivial) (λ_ q=>q) λv H hp=>by
  obtain⟨rfl,rfl⟩:=hp;exact⟨[fA s d r],λ_ q=>bo (p:=FL s d r) (H:=[]) x q,hv x,rfl⟩
theorem kK(s:MS LD)(d r:Nat):DT 12 #[.pointer (some ⟨r,0,none⟩)] T0 [fA s d r] (c9 λv H=>v= .agg (ints s.view.flat).toArray∧H=[fA s d r]):=rM (λx=>Df r x) λ_=>rfl
theorem F7(s:MS LD)(d r:Nat):DT 13 #[.pointer (some ⟨r,0,none⟩)] T0 [fA s d r] (c9 λv H=>v= .agg (ints s.own.flat).toArray∧H=[fA s d r]):=rM (λx=>FV r x) λ_=>rfl
theorem AE(s:MS LD)(d r:Nat)(key:Int):DT 27 #[.pointer (some ⟨r,0,none⟩), .int .i64 key] T0 [fA s d r] (c9 λv H=>v= .int .i64 (jf s.book key)∧H=[fA s d r]):=rM (λx=>Bg r x key) λ_=>rfl
theorem Gj(s:MS LD)(d r:Nat)(who:Int):DT 33 #[.pointer (some ⟨r,0,none⟩), .int .i64 who] T0 [fA s d r] (c9 λv H=>v= .tuple #[.agg (ints (cJ s.mirror who).flat).toArray, .bool (fw s.mirror who)]∧H=[fA s d r]):=rM (λx=>vV r x who) λ_=>rfl
end
def mr(a:CL)(i:Nat):MS LD:=((a.at' i).run).getD (zI 0 ⟨0,0, .new⟩)
def oK(a:CL):Prop:=∀j,j<5→(a.at' j).up=true
section
variable {a:CL} {c i j:Nat} {g:CX}
theorem lK(h:oK a)(hi:i<5):(a.at' i).run=some (mr a i):=by
 have u:=h i hi;unfold mr;cases hs:(a.at' i).run with
 |none=>rw[Es hs]at u;cases u
 |some s=>rfl
theorem JC(h:oK a)(hi:i<5):EA a i=some (mr a i):=by unfold EA;rw[if_pos (h i hi)];exact lK h hi
theorem tR(s:MS LD)(b:BookT)(k:Nat):kV s b (k+1)=(eH (kV s b k) ((k:Nat):Int) (cJ s.mirror ((k:Nat):Int))).1:=rfl
theorem tA(h:oK a)(hj:j<5):iv a (j+1)=kV (mr a j) (iv a j) 5:=zd (JC h hj)
theorem jV(h:oK a)(hi:i<5):DT 11 #[.pointer (some ⟨c,0,none⟩), .int .i64 ((i:Nat):Int)] T0 [dB c a g] (c9 λv H=>v= .pointer (some ⟨g.r i,0,none⟩)∧H=[dB c a g]):=by
 have:=Dy (c:=c) (a:=a) (g:=g) hi
 rwa [show BB a g i= .pointer (some ⟨g.r i,0,none⟩)by unfold BB;rw[if_pos (h i hi)]]at this
end
abbrev xq(g:CX):List Value:=[.pointer (some ⟨g.r 0,0,none⟩), .pointer (some ⟨g.r 1,0,none⟩), .pointer (some ⟨g.r 2,0,none⟩), .pointer (some ⟨g.r 3,0,none⟩), .pointer (some ⟨g.r 4,0,none⟩)]
theorem Jl(g:CX){j:Nat}(h:j<5):(xq g)[j]?=some (.pointer (some ⟨g.r j,0,none⟩)):=by
 match j,h with
 |0,_|1,_|2,_|3,_|4,_=>rfl
theorem qj(c:Nat)(a:CL)(g:CX)(hup:oK a):
 DT 32 #[(.pointer (some ⟨c,0,none⟩))] T0 [dB c a g] (RI (.agg (xq g).toArray) [dB c a g]):=by
 refine BD 32 Tryz.func32 rfl rfl rfl λw0 F hF=>sr λ_ J1=>XA OW λb2=>?_
 refine nx J1 (sr λ_ J2=>XA OW λb3=>?_);refine nx J2 (aa λ_ J3=>sr λ_ J4=>PS ?_);refine nx J4 (am (gK 5 (sr λ_ J5=>PS ?_)));refine nx J5 (aa λ_ J6=>CY (qx J6 (aa λ_ J7=>am (sr λ_ J8=>P2 ?_))));refine nx J8 (sr λ_ J9=>P3 ?_);refine CE Ds (jV (c:=c) (g:=g) (i:=0) hup (by decide)) (SM [2]) ?_;refine IX 0 qd gY ?_;refine S0 1 gY ?_;refine nx J9 (sr λ_ J10=>PS ?_);refine IX 0 qd gY ?_;refine LA 1 nS ?_;refine tp (fG rfl nS rfl rfl) ?_;refine PS ?_
 iterate 4 refine UF ?_
 refine PS ?_;refine nx J10 (CN (aM (af (ac J7 (ad (tp (bv (r:=1) rfl rfl rfl (by decide)) ?_))))));refine PS ?_;refine ap (bH (sr λ_ J11=>PS ?_));refine nx J11 (aa λ_ J12=>CY (qx J12 (aa λ_ J13=>am (sr λ_ J14=>P2 ?_))));refine nx J14 (sr λ_ J15=>P3 ?_);refine CE Ds (jV (c:=c) (g:=g) (i:=1) hup (by decide)) ID ?_;refine IX 1 qd gY ?_;refine S0 1 gY ?_;refine nx J15 (sr λ_ J16=>PS ?_);refine IX 1 qd gY ?_;refine LA 1 nS ?_;refine tp (fG rfl nS rfl rfl) ?_;refine PS ?_
 iterate 4 refine UF ?_
 refine PS ?_;refine nx J16 (CN (aM (af (ac J13 (ad (tp (bv (r:=2) rfl rfl rfl (by decide)) ?_))))));refine PS ?_;refine ap (bH (sr λ_ J17=>PS ?_));refine nx J17 (aa λ_ J18=>CY (qx J18 (aa λ_ J19=>am (sr λ_ J20=>P2 ?_))));refine nx J20 (sr λ_ J21=>P3 ?_);refine CE Ds (jV (c:=c) (g:=g) (i:=2) hup (by decide)) ID ?_;refine IX 2 qd gY ?_;refine S0 1 gY ?_;refine nx J21 (sr λ_ J22=>PS ?_);refine IX 2 qd gY ?_;refine LA 1 nS ?_;refine tp (fG rfl nS rfl rfl) ?_;refine PS ?_
 iterate 4 refine UF ?_
 refine PS ?_;refine nx J22 (CN (aM (af (ac J19 (ad (tp (bv (r:=3) rfl rfl rfl (by decide)) ?_))))));refine PS ?_;refine ap (bH (sr λ_ J23=>PS ?_));refine nx J23 (aa λ_ J24=>CY (qx J24 (aa λ_ J25=>am (sr λ_ J26=>P2 ?_))));refine nx J26 (sr λ_ J27=>P3 ?_);refine CE Ds (jV (c:=c) (g:=g) (i:=3) hup (by decide)) ID ?_;refine IX 3 qd gY ?_;refine S0 1 gY ?_;refine nx J27 (sr λ_ J28=>PS ?_);refine IX 3 qd gY ?_;refine LA 1 nS ?_;refine tp (fG rfl nS rfl rfl) ?_;refine PS ?_
 iterate 4 refine UF ?_
 refine PS ?_;refine nx J28 (CN (aM (af (ac J25 (ad (tp (bv (r:=4) rfl rfl rfl (by decide)) ?_))))));refine PS ?_;refine ap (bH (sr λ_ J29=>PS ?_));refine nx J29 (aa λ_ J30=>CY (qx J30 (aa λ_ J31=>am (sr λ_ J32=>P2 ?_))));refine nx J32 (sr λ_ J33=>P3 ?_);refine CE Ds (jV (c:=c) (g:=g) (i:=4) hup (by decide)) ID ?_;refine IX 4 qd gY ?_;refine S0 1 gY ?_;refine nx J33 (sr λ_ J34=>PS ?_);refine IX 4 qd gY ?_;refine LA 1 nS ?_;refine tp (fG rfl nS rfl rfl) ?_;refine PS ?_
 iterate 4 refine UF ?_
 refine PS ?_;refine nx J34 (CN (aM (af (ac J31 (ad (tp (bv (r:=5) rfl rfl rfl (by decide)) ?_))))));refine PS ?_;refine ap (bH (sr λ_ J35=>PS ?_));refine nx J35 (aa λ_ J36=>CN (aV (ay (ay (bh (ac J3 (sr λ_ J37=>tp (aK (vs:=[(.pointer (some ⟨(g.r 0),0,none⟩)),(.pointer (some ⟨(g.r 1),0,none⟩)),(.pointer (some ⟨(g.r 2),0,none⟩)),(.pointer (some ⟨(g.r 3),0,none⟩)),(.pointer (some ⟨(g.r 4),0,none⟩))]) rfl qd rfl oL rfl (RO 1) rfl rfl) ?_)))))));refine bL (vs:=[(.pointer (some ⟨(g.r 0),0,none⟩)),(.pointer (some ⟨(g.r 1),0,none⟩)),(.pointer (some ⟨(g.r 2),0,none⟩)),(.pointer (some ⟨(g.r 3),0,none⟩)),(.pointer (some ⟨(g.r 4),0,none⟩))]) (i:=2) (ab rfl) rfl rfl rfl rfl rfl oL (by simp[Value.oneCell']) rfl rfl (IZ rfl) rfl rfl (nx J37 (ah (RC 2 [0] qd oL rfl ?_)));exact⟨rfl,rfl⟩
theorem O2:(Tryz.prog.info? 85).map (·.zero)=some (some (.agg (ints BookT.zero.flat).toArray)):=by kernel_rfl
theorem qw(c:Nat)(a:CL)(g:CX)(hup:oK a)(hwf: ∀j i,j<5→i<5→WF (cJ (mr a j).mirror ((i:Nat):Int)).flat):
 DT 16 #[(.pointer (some ⟨c,0,none⟩))] T0 [dB c a g] (c9 (λr' H=>∃b,r'= .pointer (some ⟨b,0,none⟩)∧H=[dB c a g,aj b (ints (qy a).flat) 85])):=by
 refine BD 33 Tryz.func16 rfl rfl rfl λw0 F hF=>sr λ_ J1=>PS ?_
 refine nx J1 (sr λ_ J2=>XZ O2 (ints BookT.zero.flat) λb9=>?_);refine PS ?_;refine nx J2 (aa λ_ J3=>sr λ_ J4=>PS ?_);refine CE Mt (qj c a g hup) (SM [1]) ?_;refine PS ?_;refine nx J4 (am ?_)
 refine bu (α:=(Nat)) (λj=>j≤5) (λj=>[(2,(.pointer none)),(3,(.pointer (some ⟨b9,0,none⟩))),(11,(.agg (xq g).toArray)),(12,(.int .i64 (((j:Nat):Int))))]) (λj=>[dB c a g,aj b9 (ints (iv a j).flat) 85]) (λj=>5-j) 0
  (aN _) SB
  (λ_ s=>s) (λj hinv=>?_)
 obtain hj:=hinv;refine sr λ_ J5=>PS ?_
 refine ao ?_ ?_<;>intro h13;refine nx J5 (aa λ_ J6=>CY (qx J6 (aa λ_ J7=>am (sr λ_ J8=>tp (ia (cs:=xq g) (v:=(.pointer (some ⟨g.r j,0,none⟩))) (r:=j) rfl qd nS rfl gY rfl rfl (by omega) (by omega) (by omega) (Jl g (by omega))) ?_))));refine PS ?_;refine nx J8 (aa λ_ J9=>sr λ_ J10=>PS ?_);refine tp (fG rfl nS rfl rfl) ?_;refine nx J10 (CN (qx J9 (sr λ_ J11=>PS ?_)));refine nx J11 (am ?_)
 refine bu (α:=(Nat)) (λi=>i≤5) (λi=>[(2,(.pointer none)),(3,(.pointer (some ⟨b9,0,none⟩))),(5,(.pointer (some ⟨(g.r j),0,none⟩))),(11,(.agg (xq g).toArray)),(12,(.int .i64 (((j:Nat):Int)))),(17,(.int .i64 (((i:Nat):Int))))]) (λi=>[dB c a g,aj b9 (ints (kV (mr a j) (iv a j) i).flat) 85]) (λi=>5-i) 0
  (aN _) SB
  (λ_ s=>s) (λi hinv=>?_)
 obtain hi:=hinv;refine sr λ_ J12=>PS ?_
 refine ao ?_ ?_<;>intro h18;refine nx J12 (aa λ_ J13=>CY (qx J13 (aa λ_ J14=>am (sr λ_ J15=>P2 ?_))));refine nx J15 (sr λ_ J16=>P2 ?_);refine CE Oq (sd (i:=j) (by omega) (lK hup (by omega)) (Gj (mr a j) (g.d j) (g.r j) ((i:Nat):Int))) ID ?_;refine P3 ?_;refine XZ tx (ints RowT.zero.flat) λb7=>?_
 refine SW 0 ba ai ?_;refine PS ?_;refine nx J16 (ad (P2 ?_));refine LW 0 dI ba ai ?_;refine CE Jx (kA b9 0 85 (λx=>ints x.flat) oT (kV (mr a j) (iv a j) i) ((i:Nat):Int) (cJ (mr a j).mirror ((i:Nat):Int)) (hwf j i (by omega) (by omega))) (SM [2]) ?_;refine ap (af (ac J14 (ad (AD ?_))));refine PS ?_;refine ap ?_
 exact aJ ((i+1):(Nat)) (by omega) (by show 5- (i+1)<5-i;omega)
  SB
  (λ_ s=>by
   show bK [dB c a g,aj b9 (ints (kV (mr a j) (iv a j) (i+1)).flat) 85] _;rw[tR]
   exact ak [2,0] rfl s)
 refine nx J12 (aa λ_ J17=>CN (aV (ay (ay (bh (af (ac J7 (ad (AD ?_)))))))));refine PS ?_;refine ap ?_
 exact aJ ((j+1):(Nat)) (by omega) (by show 5- (j+1)<5-j;omega)
  SB
  (λ_ s=>by
   show bK [dB c a g,aj b9 (ints (iv a (j+1)).flat) 85] _;rw[tA hup (by omega),show 5=i by omega]
   exact ak [0,0] rfl s)
 refine nx J5 (aa λ_ J18=>CN (aV (ay (ay (bh (ac J3 (sr λ_ J19=>P2 ?_)))))));exact nx J19 (ah (aF (H':=[dB c a g,aj b9 (ints (qy a).flat) 85]) (cZ _) (λ_ s=>by rw[show j=5 by omega]at s;exact s) (av rfl rfl ⟨b9,rfl,rfl⟩)))
theorem Gq(c:Nat)(a:CL)(g:CX)(hup:oK a)(hvw: ∀j,j<5→(mr a j).view=firstV):
 DT 37 #[(.pointer (some ⟨c,0,none⟩))] T0 [dB c a g] (RI (.agg (ints firstV.flat).toArray) [dB c a g]):=by
 refine BD 31 Tryz.func37 rfl rfl rfl λw0 F hF=>sr λ_ J1=>XZ rf (ints ViewT.zero.flat) λb2=>?_
 refine nx J1 (sr λ_ J2=>CE Mo (wJ) ID ?_);refine XZ rf (ints ViewT.zero.flat) λb3=>?_
 refine SW 0 be an ?_;refine PS ?_;refine nx J2 (aa λ_ J3=>sr λ_ J4=>PS ?_);refine CE Mt (qj c a g hup) (SM [2]) ?_;refine PS ?_;refine nx J4 (am (gK 5 (sr λ_ J5=>PS ?_)));refine nx J5 (aa λ_ J6=>CY (qx J6 (aa λ_ J7=>am (sr λ_ J8=>tp (ia (cs:=xq g) (v:=(.pointer (some ⟨g.r 0,0,none⟩))) (r:=0) rfl qd nS rfl gY rfl rfl (by decide) (by decide) rfl rfl) ?_))));refine PS ?_;refine nx J8 (aa λ_ J9=>D1 1 cN ?_);refine PD 0 ?_;refine ta 1 rfl (fy rfl nS rfl rfl) ?_;refine PD 2 ?_;refine PD 3 ?_;refine PD 4 ?_;refine PD 5 ?_;refine NT 6 ?_;refine NT 7 ?_;refine NT 8 ?_;refine NT 9 ?_;refine NT 10 ?_;refine NT 11 ?_;refine PD 12 ?_;refine PD 13 ?_;refine DN (ac J9 (CY (ad (PS ?_))));refine CR Gh (sd (i:=0) (by decide) (lK hup (by decide)) (kK (mr a 0) (g.d 0) (g.r 0))) ID λvR HR hR=>?_
 obtain⟨hv,rfl⟩:=hR;rw[hvw 0 (by decide)]at hv;subst hv;refine SW 1 be an ?_;refine PS ?_;refine ap (af (ac J7 (ad (tp (bv (r:=1) rfl rfl rfl (by decide)) ?_))));refine PS ?_;refine ap (bH (sr λ_ J10=>PS ?_));refine nx J10 (aa λ_ J11=>CY (qx J11 (aa λ_ J12=>am (sr λ_ J13=>tp (ia (cs:=xq g) (v:=(.pointer (some ⟨g.r 1,0,none⟩))) (r:=1) rfl qd nS rfl gY rfl rfl (by decide) (by decide) rfl rfl) ?_))));refine PS ?_;refine nx J13 (aa λ_ J14=>D1 1 cN ?_);refine PD 0 ?_;refine ta 1 rfl (fy rfl nS rfl rfl) ?_;refine PD 2 ?_;refine PD 3 ?_;refine PD 4 ?_;refine PD 5 ?_;refine PD 6 ?_;refine FD 9 0 dS aO ?_;refine tb 10 rfl (kB (v':=(.int .i64 1)) (ek (v:=(.int .i64 (firstV.epoch))) rfl Y3 rfl rfl (λ_ h=>h.2.1) (aU firstV rfl)) rfl) ?_;refine AL 7 ?_;refine CR Gh (sd (i:=1) (by decide) (lK hup (by decide)) (kK (mr a 1) (g.d 1) (g.r 1))) ID λvR HR hR=>?_
 obtain⟨hv,rfl⟩:=hR;rw[hvw 1 (by decide)]at hv;subst hv;refine EN (tb 8 rfl (kB (v':=(.int .i64 1)) (xb (cs:=ints firstV.flat) (v:=Value.int .i64 firstV.epoch) rfl dS rfl Y3 rfl rfl (aU firstV rfl)) rfl) ?_);refine PD 11 ?_;refine PD 12 ?_;refine PD 13 ?_;refine DN (ac J14 (CN (aM (af (ac J12 (ad (tp (bv (r:=2) rfl rfl rfl (by decide)) ?_)))))));refine PS ?_;refine ap (bH (sr λ_ J15=>PS ?_));refine nx J15 (aa λ_ J16=>CY (qx J16 (aa λ_ J17=>am (sr λ_ J18=>tp (ia (cs:=xq g) (v:=(.pointer (some ⟨g.r 2,0,none⟩))) (r:=2) rfl qd nS rfl gY rfl rfl (by decide) (by decide) rfl rfl) ?_))));refine PS ?_;refine nx J18 (aa λ_ J19=>D1 1 cN ?_);refine PD 0 ?_;refine ta 1 rfl (fy rfl nS rfl rfl) ?_;refine PD 2 ?_;refine PD 3 ?_;refine PD 4 ?_;refine PD 5 ?_;refine PD 6 ?_;refine FD 9 0 dS aO ?_;refine tb 10 rfl (kB (v':=(.int .i64 1)) (ek (v:=(.int .i64 (firstV.epoch))) rfl Y3 rfl rfl (λ_ h=>h.2.1) (aU firstV rfl)) rfl) ?_;refine AL 7 ?_;refine CR Gh (sd (i:=2) (by decide) (lK hup (by decide)) (kK (mr a 2) (g.d 2) (g.r 2))) ID λvR HR hR=>?_
 obtain⟨hv,rfl⟩:=hR;rw[hvw 2 (by decide)]at hv;subst hv;refine EN (tb 8 rfl (kB (v':=(.int .i64 1)) (xb (cs:=ints firstV.flat) (v:=Value.int .i64 firstV.epoch) rfl dS rfl Y3 rfl rfl (aU firstV rfl)) rfl) ?_);refine PD 11 ?_;refine PD 12 ?_;refine PD 13 ?_;refine DN (ac J19 (CN (aM (af (ac J17 (ad (tp (bv (r:=3) rfl rfl rfl (by decide)) ?_)))))));refine PS ?_;refine ap (bH (sr λ_ J20=>PS ?_));refine nx J20 (aa λ_ J21=>CY (qx J21 (aa λ_ J22=>am (sr λ_ J23=>tp (ia (cs:=xq g) (v:=(.pointer (some ⟨g.r 3,0,none⟩))) (r:=3) rfl qd nS rfl gY rfl rfl (by decide) (by decide) rfl rfl) ?_))));refine PS ?_;refine nx J23 (aa λ_ J24=>D1 1 cN ?_);refine PD 0 ?_;refine ta 1 rfl (fy rfl nS rfl rfl) ?_;refine PD 2 ?_;refine PD 3 ?_;refine PD 4 ?_;refine PD 5 ?_;refine PD 6 ?_;refine FD 9 0 dS aO ?_;refine tb 10 rfl (kB (v':=(.int .i64 1)) (ek (v:=(.int .i64 (firstV.epoch))) rfl Y3 rfl rfl (λ_ h=>h.2.1) (aU firstV rfl)) rfl) ?_;refine AL 7 ?_;refine CR Gh (sd (i:=3) (by decide) (lK hup (by decide)) (kK (mr a 3) (g.d 3) (g.r 3))) ID λvR HR hR=>?_
 obtain⟨hv,rfl⟩:=hR;rw[hvw 3 (by decide)]at hv;subst hv;refine EN (tb 8 rfl (kB (v':=(.int .i64 1)) (xb (cs:=ints firstV.flat) (v:=Value.int .i64 firstV.epoch) rfl dS rfl Y3 rfl rfl (aU firstV rfl)) rfl) ?_);refine PD 11 ?_;refine PD 12 ?_;refine PD 13 ?_;refine DN (ac J24 (CN (aM (af (ac J22 (ad (tp (bv (r:=4) rfl rfl rfl (by decide)) ?_)))))));refine PS ?_;refine ap (bH (sr λ_ J25=>PS ?_));refine nx J25 (aa λ_ J26=>CY (qx J26 (aa λ_ J27=>am (sr λ_ J28=>tp (ia (cs:=xq g) (v:=(.pointer (some ⟨g.r 4,0,none⟩))) (r:=4) rfl qd nS rfl gY rfl rfl (by decide) (by decide) rfl rfl) ?_))));refine PS ?_;refine nx J28 (aa λ_ J29=>D1 1 cN ?_);refine PD 0 ?_;refine ta 1 rfl (fy rfl nS rfl rfl) ?_;refine PD 2 ?_;refine PD 3 ?_;refine PD 4 ?_;refine PD 5 ?_;refine PD 6 ?_;refine FD 9 0 dS aO ?_;refine tb 10 rfl (kB (v':=(.int .i64 1)) (ek (v:=(.int .i64 (firstV.epoch))) rfl Y3 rfl rfl (λ_ h=>h.2.1) (aU firstV rfl)) rfl) ?_;refine AL 7 ?_;refine CR Gh (sd (i:=4) (by decide) (lK hup (by decide)) (kK (mr a 4) (g.d 4) (g.r 4))) ID λvR HR hR=>?_
 obtain⟨hv,rfl⟩:=hR;rw[hvw 4 (by decide)]at hv;subst hv;refine EN (tb 8 rfl (kB (v':=(.int .i64 1)) (xb (cs:=ints firstV.flat) (v:=Value.int .i64 firstV.epoch) rfl dS rfl Y3 rfl rfl (aU firstV rfl)) rfl) ?_);refine PD 11 ?_;refine PD 12 ?_;refine PD 13 ?_;refine DN (ac J29 (CN (aM (af (ac J27 (ad (tp (bv (r:=5) rfl rfl rfl (by decide)) ?_)))))));refine PS ?_;refine ap (bH (sr λ_ J30=>PS ?_));refine nx J30 (aa λ_ J31=>CN (aV (ay (ay (bh (ac J3 (sr λ_ J32=>LW 1 dS be an ?_)))))));refine SW 2 be an ?_;refine nx J32 (ah (RC 2 [0] dS be (an _) ?_));exact⟨rfl,rfl⟩
theorem Bm:
 DT 36 #[(.agg (ints firstV.flat).toArray)] T0 [] (RI (.agg #[.int .i64 0, .int .i64 1, .int .i64 2, .int .i64 3, .int .i64 4]) []):=by
 refine Leg.Does.body (vs:=[(.agg (ints firstV.flat).toArray)]) (n:=25) Tryz.func36 rfl rfl rfl (λw0 F hF=>?_);refine sr λ_ J1=>?_
 refine TL.box (ab rfl) rfl rfl rfl rfl (λb1=>?_);change TL _ _ _ _ _ _ _ _ _ [aj b1 (ints firstV.flat) 32];refine lA (ab rfl) rfl rfl rfl LN (λb2=>?_);change TL _ _ _ _ _ _ _ _ _ [aj b2 (ints (#v[0,0,0,0,0]).toList) 30,aj b1 (ints firstV.flat) 32];refine nx J1 ?_;refine sr λ_ J2=>?_
 refine lA (ab rfl) rfl rfl rfl LN (λb3=>?_);change TL _ _ _ _ _ _ _ _ _ [aj b3 (ints (#v[0,0,0,0,0]).toList) 30,aj b2 (ints (#v[0,0,0,0,0]).toList) 30,aj b1 (ints firstV.flat) 32];refine nx J2 ?_;refine aa λ_ J3=>?_
 refine sr λ_ J4=>?_
 refine mv ?_;refine nx J4 ?_;refine am ?_;refine gK 5 ?_;refine sr λ_ J5=>?_
 refine tp (xU rfl rfl rfl) ?_;refine nx J5 ?_;refine aa λ_ J6=>?_
 refine jD rfl ?_;refine aM ?_;refine ac J6 ?_;refine aa λ_ J7=>?_
 refine am ?_;refine sr λ_ J8=>?_
 refine mv ?_;refine lc ?_;refine nx J8 ?_;refine sr λ_ J9=>?_
 refine mv ?_;refine mv ?_;refine tp (g8 (r:=0) rfl jA aO rfl rfl (lz rfl) (lz rfl) rfl) ?_;refine bB (i:=0) (ab rfl) rfl rfl rfl rfl rfl aO rfl rfl (by have h0:=(cI (#v[0,0,0,0,0]));omega) (pc (#v[0,0,0,0,0]) (by decide) _) rfl ?_;refine nx J9 ?_;refine sr λ_ J10=>?_
 refine tp (aK (vs:=ints firstV.flat) rfl dS rfl be rfl (du 2 rfl rfl) (an firstV) (whole (an firstV))) ?_;refine mv ?_;refine dM (ab rfl) rfl rfl rfl Bs rfl (j6 firstV 0 Cw) (λ_ s=>s) (λ_ _ _=>trivial) (λvR HR hR=>?_);obtain⟨rfl,rfl⟩:=hR;refine mv ?_;refine tp (eF (vs:=[(.int .i64 0),(.bool false)]) rfl rfl rfl) ?_;refine tp (eF (vs:=[(.int .i64 0),(.bool false)]) rfl rfl rfl) ?_;refine lc ?_;refine lc ?_;refine nx J10 ?_;refine sr λ_ J11=>?_
 refine mv ?_;refine nx J11 ?_;refine nN rfl ?_;refine aM ?_;refine af ?_;refine ac J7 ?_;refine ad ?_;refine tp (bv (r:=1) rfl rfl rfl (by decide)) ?_;refine mv ?_;refine ap ?_;refine bH ?_;refine sr λ_ J12=>?_
 refine tp (xU rfl rfl rfl) ?_;refine nx J12 ?_;refine aa λ_ J13=>?_
 refine jD rfl ?_;refine aM ?_;refine ac J13 ?_;refine aa λ_ J14=>?_
 refine am ?_;refine sr λ_ J15=>?_
 refine mv ?_;refine lc ?_;refine nx J15 ?_;refine sr λ_ J16=>?_
 refine mv ?_;refine mv ?_;refine tp (g8 (r:=1) rfl jA aO rfl rfl (lz rfl) (lz rfl) rfl) ?_;refine bB (i:=0) (ab rfl) rfl rfl rfl rfl rfl aO rfl rfl (by have h0:=(cI ((#v[0,0,0,0,0]).set 0 0 (by omega)));omega) (pc ((#v[0,0,0,0,0]).set 0 0 (by omega)) (by decide) _) rfl ?_;refine nx J16 ?_;refine sr λ_ J17=>?_
 refine tp (aK (vs:=ints firstV.flat) rfl dS rfl be rfl (du 2 rfl rfl) (an firstV) (whole (an firstV))) ?_;refine mv ?_;refine dM (ab rfl) rfl rfl rfl Bs rfl (j6 firstV 1 Cw) (λ_ s=>s) (λ_ _ _=>trivial) (λvR HR hR=>?_);obtain⟨rfl,rfl⟩:=hR;refine mv ?_;refine tp (eF (vs:=[(.int .i64 0),(.bool false)]) rfl rfl rfl) ?_;refine tp (eF (vs:=[(.int .i64 0),(.bool false)]) rfl rfl rfl) ?_;refine lc ?_;refine lc ?_;refine nx J17 ?_;refine sr λ_ J18=>?_
 refine mv ?_;refine nx J18 ?_;refine nN rfl ?_;refine aM ?_;refine af ?_;refine ac J14 ?_;refine ad ?_;refine tp (bv (r:=2) rfl rfl rfl (by decide)) ?_;refine mv ?_;refine ap ?_;refine bH ?_;refine sr λ_ J19=>?_
 refine tp (xU rfl rfl rfl) ?_;refine nx J19 ?_;refine aa λ_ J20=>?_
 refine jD rfl ?_;refine aM ?_;refine ac J20 ?_;refine aa λ_ J21=>?_
 refine am ?_;refine sr λ_ J22=>?_
 refine mv ?_;refine lc ?_;refine nx J22 ?_;refine sr λ_ J23=>?_
 refine mv ?_;refine mv ?_;refine tp (g8 (r:=2) rfl jA aO rfl rfl (lz rfl) (lz rfl) rfl) ?_;refine bB (i:=0) (ab rfl) rfl rfl rfl rfl rfl aO rfl rfl (by have h0:=(cI (((#v[0,0,0,0,0]).set 0 0 (by omega)).set 1 1 (by omega)));omega) (pc (((#v[0,0,0,0,0]).set 0 0 (by omega)).set 1 1 (by omega)) (by decide) _) rfl ?_;refine nx J23 ?_;refine sr λ_ J24=>?_
 refine tp (aK (vs:=ints firstV.flat) rfl dS rfl be rfl (du 2 rfl rfl) (an firstV) (whole (an firstV))) ?_;refine mv ?_;refine dM (ab rfl) rfl rfl rfl Bs rfl (j6 firstV 2 Cw) (λ_ s=>s) (λ_ _ _=>trivial) (λvR HR hR=>?_);obtain⟨rfl,rfl⟩:=hR;refine mv ?_;refine tp (eF (vs:=[(.int .i64 0),(.bool false)]) rfl rfl rfl) ?_;refine tp (eF (vs:=[(.int .i64 0),(.bool false)]) rfl rfl rfl) ?_;refine lc ?_;refine lc ?_;refine nx J24 ?_;refine sr λ_ J25=>?_
 refine mv ?_;refine nx J25 ?_;refine nN rfl ?_;refine aM ?_;refine af ?_;refine ac J21 ?_;refine ad ?_;refine tp (bv (r:=3) rfl rfl rfl (by decide)) ?_;refine mv ?_;refine ap ?_;refine bH ?_;refine sr λ_ J26=>?_
 refine tp (xU rfl rfl rfl) ?_;refine nx J26 ?_;refine aa λ_ J27=>?_
 refine jD rfl ?_;refine aM ?_;refine ac J27 ?_;refine aa λ_ J28=>?_
 refine am ?_;refine sr λ_ J29=>?_
 refine mv ?_;refine lc ?_;refine nx J29 ?_;refine sr λ_ J30=>?_
 refine mv ?_;refine mv ?_;refine tp (g8 (r:=3) rfl jA aO rfl rfl (lz rfl) (lz rfl) rfl) ?_;refine bB (i:=0) (ab rfl) rfl rfl rfl rfl rfl aO rfl rfl (by have h0:=(cI ((((#v[0,0,0,0,0]).set 0 0 (by omega)).set 1 1 (by omega)).set 2 2 (by omega)));omega) (pc ((((#v[0,0,0,0,0]).set 0 0 (by omega)).set 1 1 (by omega)).set 2 2 (by omega)) (by decide) _) rfl ?_;refine nx J30 ?_;refine sr λ_ J31=>?_
 refine tp (aK (vs:=ints firstV.flat) rfl dS rfl be rfl (du 2 rfl rfl) (an firstV) (whole (an firstV))) ?_;refine mv ?_;refine dM (ab rfl) rfl rfl rfl Bs rfl (j6 firstV 3 Cw) (λ_ s=>s) (λ_ _ _=>trivial) (λvR HR hR=>?_);obtain⟨rfl,rfl⟩:=hR;refine mv ?_;refine tp (eF (vs:=[(.int .i64 0),(.bool false)]) rfl rfl rfl) ?_;refine tp (eF (vs:=[(.int .i64 0),(.bool false)]) rfl rfl rfl) ?_;refine lc ?_;refine lc ?_;refine nx J31 ?_;refine sr λ_ J32=>?_
 refine mv ?_;refine nx J32 ?_;refine nN rfl ?_;refine aM ?_;refine af ?_;refine ac J28 ?_;refine ad ?_;refine tp (bv (r:=4) rfl rfl rfl (by decide)) ?_;refine mv ?_;refine ap ?_;refine bH ?_;refine sr λ_ J33=>?_
 refine tp (xU rfl rfl rfl) ?_;refine nx J33 ?_;refine aa λ_ J34=>?_
 refine jD rfl ?_;refine aM ?_;refine ac J34 ?_;refine aa λ_ J35=>?_
 refine am ?_;refine sr λ_ J36=>?_
 refine mv ?_;refine lc ?_;refine nx J36 ?_;refine sr λ_ J37=>?_
 refine mv ?_;refine mv ?_;refine tp (g8 (r:=4) rfl jA aO rfl rfl (lz rfl) (lz rfl) rfl) ?_;refine bB (i:=0) (ab rfl) rfl rfl rfl rfl rfl aO rfl rfl (by have h0:=(cI (((((#v[0,0,0,0,0]).set 0 0 (by omega)).set 1 1 (by omega)).set 2 2 (by omega)).set 3 3 (by omega)));omega) (pc (((((#v[0,0,0,0,0]).set 0 0 (by omega)).set 1 1 (by omega)).set 2 2 (by omega)).set 3 3 (by omega)) (by decide) _) rfl ?_;refine nx J37 ?_;refine sr λ_ J38=>?_
 refine tp (aK (vs:=ints firstV.flat) rfl dS rfl be rfl (du 2 rfl rfl) (an firstV) (whole (an firstV))) ?_;refine mv ?_;refine dM (ab rfl) rfl rfl rfl Bs rfl (j6 firstV 4 Cw) (λ_ s=>s) (λ_ _ _=>trivial) (λvR HR hR=>?_);obtain⟨rfl,rfl⟩:=hR;refine mv ?_;refine tp (eF (vs:=[(.int .i64 0),(.bool false)]) rfl rfl rfl) ?_;refine tp (eF (vs:=[(.int .i64 0),(.bool false)]) rfl rfl rfl) ?_;refine lc ?_;refine lc ?_;refine nx J38 ?_;refine sr λ_ J39=>?_
 refine mv ?_;refine nx J39 ?_;refine nN rfl ?_;refine aM ?_;refine af ?_;refine ac J35 ?_;refine ad ?_;refine tp (bv (r:=5) rfl rfl rfl (by decide)) ?_;refine mv ?_;refine ap ?_;refine bH ?_;refine sr λ_ J40=>?_
 refine tp (xU rfl rfl rfl) ?_;refine nx J40 ?_;refine aa λ_ J41=>?_
 refine nN rfl ?_;refine aV ?_;refine ay ?_;refine ay ?_;refine bh ?_;refine ac J3 ?_;refine sr λ_ J42=>?_
 refine tp (aK (vs:=ints ((((((#v[0,0,0,0,0]).set 0 0 (by omega)).set 1 1 (by omega)).set 2 2 (by omega)).set 3 3 (by omega)).set 4 4 (by omega)).toList) rfl jA rfl fb rfl (du 0 rfl rfl) (cI ((((((#v[0,0,0,0,0]).set 0 0 (by omega)).set 1 1 (by omega)).set 2 2 (by omega)).set 3 3 (by omega)).set 4 4 (by omega))) (whole (cI ((((((#v[0,0,0,0,0]).set 0 0 (by omega)).set 1 1 (by omega)).set 2 2 (by omega)).set 3 3 (by omega)).set 4 4 (by omega))))) ?_;refine bL (vs:=ints ((((((#v[0,0,0,0,0]).set 0 0 (by omega)).set 1 1 (by omega)).set 2 2 (by omega)).set 3 3 (by omega)).set 4 4 (by omega)).toList) (i:=1) (ab rfl) rfl rfl rfl rfl rfl (by rw[(cI ((((((#v[0,0,0,0,0]).set 0 0 (by omega)).set 1 1 (by omega)).set 2 2 (by omega)).set 3 3 (by omega)).set 4 4 (by omega)))];exact fb) (bm _) rfl rfl (by have h0:=(cI (#v[0,0,0,0,0]));have h1:=(cI ((((((#v[0,0,0,0,0]).set 0 0 (by omega)).set 1 1 (by omega)).set 2 2 (by omega)).set 3 3 (by omega)).set 4 4 (by omega)));omega) (cg ((cI (#v[0,0,0,0,0])).trans (cI ((((((#v[0,0,0,0,0]).set 0 0 (by omega)).set 1 1 (by omega)).set 2 2 (by omega)).set 3 3 (by omega)).set 4 4 (by omega))).symm)) rfl ?_;refine nx J42 ?_;refine ah ?_;refine O4 (H':=[]) rfl rfl jA rfl fb (du 1 rfl rfl) (cI ((((((#v[0,0,0,0,0]).set 0 0 (by omega)).set 1 1 (by omega)).set 2 2 (by omega)).set 3 3 (by omega)).set 4 4 (by omega))) (λ_ s=>ak [] rfl s) ?_;exact⟨rfl,rfl⟩
theorem Cg{i k:Nat}(hi:i<5)(hk:k<4):cz BookT.zero ((i:Nat):Int) ((k:Nat):Int)=CellT.zero:=by
 match i,hi,k,hk with
 |0,_,0,_|0,_,1,_|0,_,2,_|0,_,3,_|1,_,0,_|1,_,1,_|1,_,2,_|1,_,3,_|2,_,0,_|2,_,1,_|2,_,2,_|2,_,3,_|3,_,0,_|3,_,1,_|3,_,2,_|3,_,3,_|4,_,0,_|4,_,1,_|4,_,2,_|4,_,3,_=>show _=_;kernel_rfl
theorem rQ(n:Nat):(ints (List.replicate n 0)).length=n:=by simp[ints]
theorem qK{n k:Nat}(h:k<n):(ints (List.replicate n 0))[k]?=some (.int .i64 0):=by simp[ints,h]
theorem EE(n k:Nat):(ints (List.replicate n 0)).set k (.int .i64 0)=ints (List.replicate n 0):=by
 refine List.ext_getElem? λj=>?_
 by_cases hj:j=k
 · subst hj
   by_cases h:j<n
   · rw[List.getElem?_set_self (by rw[rQ];exact h),qK h]
   · rw[List.getElem?_eq_none (by rw[iG,rQ];omega),List.getElem?_eq_none (by rw[rQ];omega)]
 · rw[List.getElem?_set_ne (λe=>hj e.symm)]
theorem Jo{j:Nat}(h:j<5):([.int .i64 0, .int .i64 1, .int .i64 2, .int .i64 3, .int .i64 4]:List Value)[j]?=some (.int .i64 ((j:Nat):Int)):=by
 match j,h with
 |0,_|1,_|2,_|3,_|4,_=>rfl
theorem AY(c:Nat)(a:CL)(g:CX)(hup:oK a)(hvw: ∀j,j<5→(mr a j).view=firstV)(hwf: ∀j i,j<5→i<5→WF (cJ (mr a j).mirror ((i:Nat):Int)).flat)(htz:qy a=BookT.zero)(k:Nat)(hk:k<4):
 DT 18 #[(.pointer (some ⟨c,0,none⟩)),(.int .i64 (((k:Nat):Int)))] T0 [dB c a g] (RI (.agg (ints (List.replicate 5 0)).toArray) [dB c a g]):=by
 refine BD 82 Tryz.func18 rfl rfl rfl λw0 F hF=>sr λ_ J1=>XZ LN (ints (#v[0,0,0,0,0]).toList) λb4=>?_
 refine nx J1 (sr λ_ J2=>XZ LN (ints (#v[0,0,0,0,0]).toList) λb5=>?_);refine nx J2 (aa λ_ J3=>sr λ_ J4=>P2 ?_);refine ao ?_ ?_<;>intro h13
 · exact absurd h13 (by omega)
 refine P3 ?_;refine ao ?_ ?_<;>intro h16
 · exact absurd h16 (by omega)
 refine PS ?_;refine nx J4 (CN (qx J3 (sr λ_ J5=>PS ?_)));refine CR Ld (qw c a g hup hwf) (SM [2]) λvR HR hR=>?_
 obtain⟨bk,rfl,rfl⟩:=hR;rw[htz];refine PS ?_;refine nx J5 (sr λ_ J6=>XZ OV (ints ((#v[CellT.zero,CellT.zero,CellT.zero,CellT.zero,CellT.zero]).toList.flatMap CellT.flat)) λb7=>?_);refine nx J6 (aa λ_ J7=>sr λ_ J8=>PS ?_);refine nx J8 (am (gK 5 (sr λ_ J9=>PS ?_)));refine nx J9 (aa λ_ J10=>CY (qx J10 (aa λ_ J11=>am (sr λ_ J12=>P2 ?_))));refine nx J12 (ad (P4 ?_));refine CR Dr (gF bk 0 85 (λx=>ints x.flat) oT BookT.zero 0 ((k:Nat):Int)) (SM [2]) λvR HR hR=>?_
 obtain⟨hv,rfl⟩:=hR;rw[show cz BookT.zero 0 ((k:Nat):Int)=CellT.zero from Cg (i:=0) (by decide) hk]at hv;obtain rfl:vR= .agg #[.int .i64 0, .int .i64 0, .int .i64 0, .int .i64 0, .int .i64 0, .int .i64 0, .int .i64 0]:=hv;refine IX 0 Fb eO ?_;refine bL (vs:=ints (CellT.mk 0 0 (#v[0,0,0,0,0])).flat) (i:=1) (ab rfl) rfl rfl rfl rfl rfl (by rw[(aT (CellT.mk 0 0 (#v[0,0,0,0,0])))];exact eO) (bm _) rfl rfl (by have h0:=(pZ (#v[CellT.zero,CellT.zero,CellT.zero,CellT.zero,CellT.zero]));have h1:=(aT (CellT.mk 0 0 (#v[0,0,0,0,0])));omega) (oy bn (#v[CellT.zero,CellT.zero,CellT.zero,CellT.zero,CellT.zero]) (i:=0) 0 (by decide) rfl (by have h1:=(aT (CellT.mk 0 0 (#v[0,0,0,0,0])));omega) (cg ((aT ((#v[CellT.zero,CellT.zero,CellT.zero,CellT.zero,CellT.zero])[0])).trans (aT (CellT.mk 0 0 (#v[0,0,0,0,0]))).symm))) rfl (ap (af (ac J11 (ad (tp (bv (r:=1) rfl rfl rfl (by decide)) ?_)))));refine PS ?_;refine ap (bH (sr λ_ J13=>PS ?_));refine nx J13 (aa λ_ J14=>CY (qx J14 (aa λ_ J15=>am (sr λ_ J16=>P2 ?_))));refine nx J16 (ad (P4 ?_));refine CR Dr (gF bk 0 85 (λx=>ints x.flat) oT BookT.zero 1 ((k:Nat):Int)) ID λvR HR hR=>?_
 obtain⟨hv,rfl⟩:=hR;rw[show cz BookT.zero 1 ((k:Nat):Int)=CellT.zero from Cg (i:=1) (by decide) hk]at hv;obtain rfl:vR= .agg #[.int .i64 0, .int .i64 0, .int .i64 0, .int .i64 0, .int .i64 0, .int .i64 0, .int .i64 0]:=hv;refine IX 7 Fb eO ?_;refine bL (vs:=ints (CellT.mk 0 0 (#v[0,0,0,0,0])).flat) (i:=1) (ab rfl) rfl rfl rfl rfl rfl (by rw[(aT (CellT.mk 0 0 (#v[0,0,0,0,0])))];exact eO) (bm _) rfl rfl (by have h0:=(pZ ((#v[CellT.zero,CellT.zero,CellT.zero,CellT.zero,CellT.zero]).set 0 (CellT.mk 0 0 (#v[0,0,0,0,0])) (by omega)));have h1:=(aT (CellT.mk 0 0 (#v[0,0,0,0,0])));omega) (oy bn ((#v[CellT.zero,CellT.zero,CellT.zero,CellT.zero,CellT.zero]).set 0 (CellT.mk 0 0 (#v[0,0,0,0,0])) (by omega)) (i:=1) 0 (by decide) rfl (by have h1:=(aT (CellT.mk 0 0 (#v[0,0,0,0,0])));omega) (cg ((aT (((#v[CellT.zero,CellT.zero,CellT.zero,CellT.zero,CellT.zero]).set 0 (CellT.mk 0 0 (#v[0,0,0,0,0])) (by omega))[1])).trans (aT (CellT.mk 0 0 (#v[0,0,0,0,0]))).symm))) rfl (ap (af (ac J15 (ad (tp (bv (r:=2) rfl rfl rfl (by decide)) ?_)))));refine PS ?_;refine ap (bH (sr λ_ J17=>PS ?_));refine nx J17 (aa λ_ J18=>CY (qx J18 (aa λ_ J19=>am (sr λ_ J20=>P2 ?_))));refine nx J20 (ad (P4 ?_));refine CR Dr (gF bk 0 85 (λx=>ints x.flat) oT BookT.zero 2 ((k:Nat):Int)) ID λvR HR hR=>?_
 obtain⟨hv,rfl⟩:=hR;rw[show cz BookT.zero 2 ((k:Nat):Int)=CellT.zero from Cg (i:=2) (by decide) hk]at hv;obtain rfl:vR= .agg #[.int .i64 0, .int .i64 0, .int .i64 0, .int .i64 0, .int .i64 0, .int .i64 0, .int .i64 0]:=hv;refine IX 14 Fb eO ?_;refine bL (vs:=ints (CellT.mk 0 0 (#v[0,0,0,0,0])).flat) (i:=1) (ab rfl) rfl rfl rfl rfl rfl (by rw[(aT (CellT.mk 0 0 (#v[0,0,0,0,0])))];exact eO) (bm _) rfl rfl (by have h0:=(pZ (((#v[CellT.zero,CellT.zero,CellT.zero,CellT.zero,CellT.zero]).set 0 (CellT.mk 0 0 (#v[0,0,0,0,0])) (by omega)).set 1 (CellT.mk 0 0 (#v[0,0,0,0,0])) (by omega)));have h1:=(aT (CellT.mk 0 0 (#v[0,0,0,0,0])));omega) (oy bn (((#v[CellT.zero,CellT.zero,CellT.zero,CellT.zero,CellT.zero]).set 0 (CellT.mk 0 0 (#v[0,0,0,0,0])) (by omega)).set 1 (CellT.mk 0 0 (#v[0,0,0,0,0])) (by omega)) (i:=2) 0 (by decide) rfl (by have h1:=(aT (CellT.mk 0 0 (#v[0,0,0,0,0])));omega) (cg ((aT ((((#v[CellT.zero,CellT.zero,CellT.zero,CellT.zero,CellT.zero]).set 0 (CellT.mk 0 0 (#v[0,0,0,0,0])) (by omega)).set 1 (CellT.mk 0 0 (#v[0,0,0,0,0])) (by omega))[2])).trans (aT (CellT.mk 0 0 (#v[0,0,0,0,0]))).symm))) rfl (ap (af (ac J19 (ad (tp (bv (r:=3) rfl rfl rfl (by decide)) ?_)))));refine PS ?_;refine ap (bH (sr λ_ J21=>PS ?_));refine nx J21 (aa λ_ J22=>CY (qx J22 (aa λ_ J23=>am (sr λ_ J24=>P2 ?_))));refine nx J24 (ad (P4 ?_))
 refine CR Dr (gF bk 0 85 (λx=>ints x.flat) oT BookT.zero 3 ((k:Nat):Int)) ID λvR HR hR=>?_
 obtain⟨hv,rfl⟩:=hR;rw[show cz BookT.zero 3 ((k:Nat):Int)=CellT.zero from Cg (i:=3) (by decide) hk]at hv;obtain rfl:vR= .agg #[.int .i64 0, .int .i64 0, .int .i64 0, .int .i64 0, .int .i64 0, .int .i64 0, .int .i64 0]:=hv;refine IX 21 Fb eO ?_;refine bL (vs:=ints (CellT.mk 0 0 (#v[0,0,0,0,0])).flat) (i:=1) (ab rfl) rfl rfl rfl rfl rfl (by rw[(aT (CellT.mk 0 0 (#v[0,0,0,0,0])))];exact eO) (bm _) rfl rfl (by have h0:=(pZ ((((#v[CellT.zero,CellT.zero,CellT.zero,CellT.zero,CellT.zero]).set 0 (CellT.mk 0 0 (#v[0,0,0,0,0])) (by omega)).set 1 (CellT.mk 0 0 (#v[0,0,0,0,0])) (by omega)).set 2 (CellT.mk 0 0 (#v[0,0,0,0,0])) (by omega)));have h1:=(aT (CellT.mk 0 0 (#v[0,0,0,0,0])));omega) (oy bn ((((#v[CellT.zero,CellT.zero,CellT.zero,CellT.zero,CellT.zero]).set 0 (CellT.mk 0 0 (#v[0,0,0,0,0])) (by omega)).set 1 (CellT.mk 0 0 (#v[0,0,0,0,0])) (by omega)).set 2 (CellT.mk 0 0 (#v[0,0,0,0,0])) (by omega)) (i:=3) 0 (by decide) rfl (by have h1:=(aT (CellT.mk 0 0 (#v[0,0,0,0,0])));omega) (cg ((aT (((((#v[CellT.zero,CellT.zero,CellT.zero,CellT.zero,CellT.zero]).set 0 (CellT.mk 0 0 (#v[0,0,0,0,0])) (by omega)).set 1 (CellT.mk 0 0 (#v[0,0,0,0,0])) (by omega)).set 2 (CellT.mk 0 0 (#v[0,0,0,0,0])) (by omega))[3])).trans (aT (CellT.mk 0 0 (#v[0,0,0,0,0]))).symm))) rfl (ap (af (ac J23 (ad (tp (bv (r:=4) rfl rfl rfl (by decide)) ?_)))));refine PS ?_;refine ap (bH (sr λ_ J25=>PS ?_))
 refine nx J25 (aa λ_ J26=>CY (qx J26 (aa λ_ J27=>am (sr λ_ J28=>P2 ?_))));refine nx J28 (ad (P4 ?_));refine CR Dr (gF bk 0 85 (λx=>ints x.flat) oT BookT.zero 4 ((k:Nat):Int)) ID λvR HR hR=>?_
 obtain⟨hv,rfl⟩:=hR;rw[show cz BookT.zero 4 ((k:Nat):Int)=CellT.zero from Cg (i:=4) (by decide) hk]at hv;obtain rfl:vR= .agg #[.int .i64 0, .int .i64 0, .int .i64 0, .int .i64 0, .int .i64 0, .int .i64 0, .int .i64 0]:=hv;refine IX 28 Fb eO ?_
 refine bL (vs:=ints (CellT.mk 0 0 (#v[0,0,0,0,0])).flat) (i:=1) (ab rfl) rfl rfl rfl rfl rfl (by rw[(aT (CellT.mk 0 0 (#v[0,0,0,0,0])))];exact eO) (bm _) rfl rfl (by have h0:=(pZ (((((#v[CellT.zero,CellT.zero,CellT.zero,CellT.zero,CellT.zero]).set 0 (CellT.mk 0 0 (#v[0,0,0,0,0])) (by omega)).set 1 (CellT.mk 0 0 (#v[0,0,0,0,0])) (by omega)).set 2 (CellT.mk 0 0 (#v[0,0,0,0,0])) (by omega)).set 3 (CellT.mk 0 0 (#v[0,0,0,0,0])) (by omega)));have h1:=(aT (CellT.mk 0 0 (#v[0,0,0,0,0])));omega) (oy bn (((((#v[CellT.zero,CellT.zero,CellT.zero,CellT.zero,CellT.zero]).set 0 (CellT.mk 0 0 (#v[0,0,0,0,0])) (by omega)).set 1 (CellT.mk 0 0 (#v[0,0,0,0,0])) (by omega)).set 2 (CellT.mk 0 0 (#v[0,0,0,0,0])) (by omega)).set 3 (CellT.mk 0 0 (#v[0,0,0,0,0])) (by omega)) (i:=4) 0 (by decide) rfl (by have h1:=(aT (CellT.mk 0 0 (#v[0,0,0,0,0])));omega) (cg ((aT ((((((#v[CellT.zero,CellT.zero,CellT.zero,CellT.zero,CellT.zero]).set 0 (CellT.mk 0 0 (#v[0,0,0,0,0])) (by omega)).set 1 (CellT.mk 0 0 (#v[0,0,0,0,0])) (by omega)).set 2 (CellT.mk 0 0 (#v[0,0,0,0,0])) (by omega)).set 3 (CellT.mk 0 0 (#v[0,0,0,0,0])) (by omega))[4])).trans (aT (CellT.mk 0 0 (#v[0,0,0,0,0]))).symm))) rfl (ap (af (ac J27 (ad (tp (bv (r:=5) rfl rfl rfl (by decide)) ?_)))));refine PS ?_;refine ap (bH (sr λ_ J29=>PS ?_));refine nx J29 (aa λ_ J30=>CN (aV (ay (ay (bh (ac J7 (aa λ_ J31=>sr λ_ J32=>PS ?_)))))))
 refine CE On (Gq c a g hup hvw) (SM [2]) ?_;refine CE Oo (Bm) ID ?_;refine PS ?_;refine nx J32 (am ?_)
 refine bu (α:=(Nat)) (λj=>j≤5) (λj=>[(4,(.pointer (some ⟨b4,0,none⟩))),(5,(.pointer (some ⟨b5,0,none⟩))),(7,(.pointer (some ⟨b7,0,none⟩))),(33,(.agg ([.int .i64 0, .int .i64 1, .int .i64 2, .int .i64 3, .int .i64 4]).toArray)),(34,(.int .i64 (((j:Nat):Int))))]) (λj=>[dB c a g,aj b5 (ints (List.replicate 5 0)) 30,aj b7 (ints (List.replicate 35 0)) 94,aj b4 (ints (#v[0,0,0,0,0]).toList) 30]) (λj=>5-j) 0
  (aN _) SB
  (λ_ s=>ak [0,2,1,1] rfl s) (λj hinv=>?_)
 obtain hj:=hinv;refine sr λ_ J33=>PS ?_
 refine ao ?_ ?_<;>intro h35;refine nx J33 (aa λ_ J34=>CY (qx J34 (aa λ_ J35=>am (sr λ_ J36=>PS ?_))));refine tp (ia (cs:=[.int .i64 0, .int .i64 1, .int .i64 2, .int .i64 3, .int .i64 4]) (v:=(.int .i64 ((j:Nat):Int))) (r:=j) rfl jA Y3 rfl aO rfl rfl (by omega) (by omega) (by omega) (Jo (by omega))) ?_;refine P2 ?_;refine nx J36 (aa λ_ J37=>sr λ_ J38=>P2 ?_);refine ao ?_ ?_<;>intro h39
 · exact absurd h39 (by omega)
 refine P3 ?_;refine ao ?_ ?_<;>intro h42
 · exact absurd h42 (by omega)
 refine PS ?_;refine nx J38 (CN (qx J37 (aa λ_ J39=>D1 2 cN ?_)));refine PD 0 ?_;refine IY 1 j jA aO ?_;refine PD 3 ?_;refine IY 4 (j*7) Fb eO ?_;refine ta 5 rfl (aW (r:=j*7) rfl mn rfl aO rfl rfl) ?_;refine LX 6 Y3 (.int .i64 0) ?_ (hc:=by exact qK (by omega));refine PD 7 ?_;refine IY 8 (j*7) Fb eO ?_;refine ta 9 rfl (aW (r:=j*7+1) rfl mn rfl aO rfl rfl) ?_;refine LX 10 Y3 (.int .i64 0) ?_ (hc:=by exact qK (by omega));refine ta 11 rfl (ik (r:=0) rfl rfl rfl rfl) ?_;refine AL 2 ?_;refine LT 1 Y3 (.int .i64 0) ?_ (hc:=by exact qK (by omega));refine EN (ta 12 rfl (bv (r:=0) rfl rfl rfl rfl) ?_);refine IY 13 j jA aO ?_;refine AL 14 ?_;refine bB (i:=1) (ab rfl) rfl rfl rfl rfl rfl aO rfl rfl (by rw[rQ];omega) (EE 5 _) rfl (EN (DN (ac J39 (sr λ_ J40=>PS ?_))));refine nx J40 (am ?_)
 refine bu (α:=(Nat)) (λi=>i≤5) (λi=>[(4,(.pointer (some ⟨b4,0,none⟩))),(5,(.pointer (some ⟨b5,0,none⟩))),(7,(.pointer (some ⟨b7,0,none⟩))),(9,(.int .i64 (((j:Nat):Int)))),(10,(.int .i64 (((j:Nat):Int)))),(33,(.agg ([.int .i64 0, .int .i64 1, .int .i64 2, .int .i64 3, .int .i64 4]).toArray)),(34,(.int .i64 (((j:Nat):Int)))),(58,(.int .i64 (((i:Nat):Int))))]) (λi=>[dB c a g,aj b5 (ints (List.replicate 5 0)) 30,aj b7 (ints (List.replicate 35 0)) 94,aj b4 (ints (#v[0,0,0,0,0]).toList) 30]) (λi=>5-i) 0
  (aN _) SB
  (λ_ s=>s) (λi hinv=>?_)
 obtain hi:=hinv;refine sr λ_ J41=>PS ?_
 refine ao ?_ ?_<;>intro h59;refine nx J41 (aa λ_ J42=>CY (qx J42 (aa λ_ J43=>am (sr λ_ J44=>P2 ?_))));refine nx J44 (D1 2 cN ?_);refine PD 0 ?_;refine IY 1 j jA aO ?_;refine PD 3 ?_;refine PD 4 ?_;refine IY 5 (i*7) Fb eO ?_;refine ta 6 rfl (aW (r:=i*7+2) rfl mn rfl fb rfl rfl) ?_;refine IY 7 (i*7+2+j) jA aO ?_;refine LX 8 Y3 (.int .i64 0) ?_ (hc:=by exact qK (by omega));refine PD 9 ?_;refine PD 10 ?_;refine IY 11 (j*7) Fb eO ?_;refine ta 12 rfl (aW (r:=j*7+2) rfl mn rfl fb rfl rfl) ?_;refine IY 13 (j*7+2+i) jA aO ?_;refine LX 14 Y3 (.int .i64 0) ?_ (hc:=by exact qK (by omega));refine ta 15 rfl (ik (r:=0) rfl rfl rfl rfl) ?_;refine AL 2 ?_;refine LT 1 Y3 (.int .i64 0) ?_ (hc:=by exact qK (by omega));refine EN (ta 16 rfl (bv (r:=0) rfl rfl rfl rfl) ?_);refine IY 17 j jA aO ?_;refine AL 18 ?_;refine bB (i:=1) (ab rfl) rfl rfl rfl rfl rfl aO rfl rfl (by rw[rQ];omega) (EE 5 _) rfl (EN (DN (af (ac J43 (ad (AD ?_))))));refine PS ?_;refine ap ?_
 exact aJ ((i+1):(Nat)) (by omega) (by show 5- (i+1)<5-i;omega)
  SB
  (λ_ s=>s)
 refine nx J41 (aa λ_ J45=>CN (aV (ay (ay (bh (af (ac J35 (ad (AD ?_)))))))));refine PS ?_;refine ap ?_
 exact aJ ((j+1):(Nat)) (by omega) (by show 5- (j+1)<5-j;omega)
  SB
  (λ_ s=>s)
 refine nx J33 (aa λ_ J46=>CN (aV (ay (ay (bh (ac J31 (sr λ_ J47=>ce (H':=[dB c a g,aj b5 (ints (#v[0,0,0,0,0]:Vector Int 5).toList) 30,aj b7 (ints (List.replicate 35 0)) 94,aj b4 (ints (#v[0,0,0,0,0]).toList) 30]) (λ_ s=>s) (tp (aK (vs:=ints (#v[0,0,0,0,0]:Vector Int 5).toList) rfl jA rfl fb rfl (RO 1) (cI (#v[0,0,0,0,0]:Vector Int 5)) (whole (cI (#v[0,0,0,0,0]:Vector Int 5)))) ?_))))))));exact bL (vs:=ints (#v[0,0,0,0,0]:Vector Int 5).toList) (i:=3) (ab rfl) rfl rfl rfl rfl rfl (by rw[(cI (#v[0,0,0,0,0]:Vector Int 5))];exact fb) (bm _) rfl rfl (by have h0:=(cI (#v[0,0,0,0,0]));have h1:=(cI (#v[0,0,0,0,0]:Vector Int 5));omega) (cg ((cI (#v[0,0,0,0,0])).trans (cI (#v[0,0,0,0,0]:Vector Int 5)).symm)) rfl (nx J47 (ah (O4 (H':=[dB c a g]) rfl rfl jA rfl fb (RO 3) (cI (#v[0,0,0,0,0]:Vector Int 5)) (λ_ s=>ak [0] rfl s) ⟨rfl,rfl⟩)))
theorem yh:
 DT 14 #[(.int .i64 7)] T0 [] (c9 (λr' H=>∃u,r'=u∧H=[own u 3 [.int .i64 0, .int .i64 1, .int .i64 2] 3 1])):=by
 refine BD 19 Tryz.func14 rfl rfl rfl λw0 F hF=>sr λ_ J1=>PS ?_
 refine nx J1 (sr λ_ J2=>GU 3 1 (λon=>?_));clear on;refine PS ?_;refine nx J2 (aa λ_ J3=>sr λ_ J4=>PS ?_);refine nx J4 (am (gK 5 (sr λ_ J5=>PS ?_)));refine nx J5 (aa λ_ J6=>CY (qx J6 (aa λ_ J7=>am (sr λ_ J8=>P2 ?_))));refine nx J8 (sr λ_ J9=>P2 ?_);refine tp (gM (r:=7) rfl rfl rfl (by omega) (by decide)) ?_;refine tp (iD (r:=1) rfl rfl rfl (by decide)) ?_;refine PS ?_;refine nx J9 (CY (ad (P2 ?_)));refine aL (cells:=#[(.int .i64 0)]) (ab rfl) rfl rfl rfl ii nf rfl rfl rfl (by as_aux_lemma=>kernel_rfl) (λb15=>bO (k:=1) (news:=[(.int .i64 0)]) (nn':=1) (xs':=[(.int .i64 0)]) (ab rfl) rfl rfl rfl ii nf rfl rfl rfl rfl rfl rfl (λ_ _=>fB rfl (RO 0) rfl) (by simp[Value.oneCell']) (by simp only[maxLen];omega) (by omega) rfl rfl (λv16 ov16=>PS ?_));refine ap (af (ac J7 (ad (tp (bv (r:=1) rfl rfl rfl (by decide)) ?_))));refine PS ?_;refine ap (bH (sr λ_ J10=>PS ?_));refine nx J10 (aa λ_ J11=>CY (qx J11 (aa λ_ J12=>am (sr λ_ J13=>P2 ?_))));refine nx J13 (sr λ_ J14=>P2 ?_);refine tp (gM (r:=3) rfl rfl rfl (by omega) (by decide)) ?_;refine tp (iD (r:=1) rfl rfl rfl (by decide)) ?_;refine PS ?_;refine nx J14 (CY (ad (P2 ?_)))
 refine ce (H':=[own v16 (1) ([(.int .i64 0)]) 3 1]) (λ_ s=>ak [1] rfl s) (aL (cells:=#[(.int .i64 1)]) (ab rfl) rfl rfl rfl ii nf rfl rfl rfl (by as_aux_lemma=>kernel_rfl) (λb15=>bO (k:=1) (news:=[(.int .i64 1)]) (nn':=2) (xs':=[(.int .i64 0),(.int .i64 1)]) (ab rfl) rfl rfl rfl ii nf rfl rfl rfl rfl rfl rfl (λ_ _=>fB rfl (RO 0) rfl) (by simp[Value.oneCell']) (by simp only[maxLen];omega) (by omega) rfl rfl (λv16 ov16=>PS ?_)));refine ap (af (ac J12 (ad (tp (bv (r:=2) rfl rfl rfl (by decide)) ?_))));refine PS ?_;refine ap (bH (sr λ_ J15=>PS ?_));refine nx J15 (aa λ_ J16=>CY (qx J16 (aa λ_ J17=>am (sr λ_ J18=>P2 ?_))));refine nx J18 (sr λ_ J19=>P2 ?_);refine tp (gM (r:=1) rfl rfl rfl (by omega) (by decide)) ?_;refine tp (iD (r:=1) rfl rfl rfl (by decide)) ?_;refine PS ?_;refine nx J19 (CY (ad (P2 ?_)));refine ce (H':=[own v16 (2) ([(.int .i64 0),(.int .i64 1)]) 3 1]) (λ_ s=>ak [1] rfl s) (aL (cells:=#[(.int .i64 2)]) (ab rfl) rfl rfl rfl ii nf rfl rfl rfl (by as_aux_lemma=>kernel_rfl) (λb15=>bO (k:=1) (news:=[(.int .i64 2)]) (nn':=3) (xs':=[(.int .i64 0),(.int .i64 1),(.int .i64 2)]) (ab rfl) rfl rfl rfl ii nf rfl rfl rfl rfl rfl rfl (λ_ _=>fB rfl (RO 0) rfl) (by simp[Value.oneCell']) (by simp only[maxLen];omega) (by omega) rfl rfl (λv16 ov16=>PS ?_)));refine ap (af (ac J17 (ad (tp (bv (r:=3) rfl rfl rfl (by decide)) ?_))));refine PS ?_
 refine ap (bH (sr λ_ J20=>PS ?_));refine nx J20 (aa λ_ J21=>CY (qx J21 (aa λ_ J22=>am (sr λ_ J23=>P2 ?_))));refine nx J23 (sr λ_ J24=>P2 ?_);refine tp (gM (r:=0) rfl rfl rfl (by omega) (by decide)) ?_;refine tp (iD (r:=0) rfl rfl rfl (by decide)) ?_;refine PS ?_;refine nx J24 (CN (aM (af (ac J22 (ad (tp (bv (r:=4) rfl rfl rfl (by decide)) ?_))))));refine PS ?_;refine ap (bH (sr λ_ J25=>PS ?_));refine nx J25 (aa λ_ J26=>CY (qx J26 (aa λ_ J27=>am (sr λ_ J28=>P2 ?_))));refine nx J28 (sr λ_ J29=>P2 ?_);refine tp (gM (r:=0) rfl rfl rfl (by omega) (by decide)) ?_;refine tp (iD (r:=0) rfl rfl rfl (by decide)) ?_;refine PS ?_;refine nx J29 (CN (aM (af (ac J27 (ad (tp (bv (r:=5) rfl rfl rfl (by decide)) ?_))))));refine PS ?_;refine ap (bH (sr λ_ J30=>PS ?_));refine nx J30 (aa λ_ J31=>CN (aV (ay (ay (bh (ac J3 (sr λ_ J32=>P2 ?_)))))));exact nx J32 (ah (WK [1] (av rfl rfl ⟨_,rfl,rfl⟩)))
def cy(a:CL)(i:Nat):List UInt8:=tU ([109,97,99,104,105,110,101,32]++l7 i++[32,117,112]) [1,(mr a i).own.version,0,1,2]
theorem Kz{n:Int}(h:0≤n∧n<10): ∀m∈([1,n,0,1,2]:List Int),0≤m∧m<10:=by
 intro m hm;simp only[bT,List.not_mem_nil,or_false]at hm;rcases hm with rfl|rfl|rfl|rfl|rfl
 · decide
 · exact h
 · decide
 · decide
 · decide
theorem CM(t c:Nat)(A v:Value)(bs:List UInt8)(a:CL)(g:CX)(i:Nat)(hi:i<5)(hA:A= .pointer none∨A= .pointer (some ⟨t,1,none⟩))(hv:v.oneCell'=true)(hb:bs.length≤1000)(hup:oK a)(hvw: ∀j,j<5→(mr a j).view=firstV)(hvd:0≤(mr a i).own.version∧(mr a i).own.version<10)(hrs:(a.at' i).reps=[])(n:Nat)(hok:CLOk n a)(hn:n≤100000):
 DT 38 #[(.pointer (some ⟨t,0,none⟩)),(.int .i64 (((i:Nat):Int)))] T0 [aj t [(.pointer (some ⟨c,0,none⟩)),A,v] 102,cu v (bs) 5,dB c a g] (c9 (λ_ H=>∃v',v'.oneCell'=true∧H=[aj t [(.pointer (some ⟨c,0,none⟩)),(.pointer (some ⟨t,1,none⟩)),v'] 102,cu v' (bs++cy a i) 5,dB c a g])):=by
 refine Leg.Does.body (vs:=[(.pointer (some ⟨t,0,none⟩)),(.int .i64 (((i:Nat):Int)))]) (n:=63) Tryz.func38 rfl rfl rfl (λw0 F hF=>?_);refine sr λ_ J1=>?_
 refine mv ?_;refine dM (ab rfl) rfl rfl rfl Mn rfl (yI i (by omega)) (λ_ s=>s) (λ_ _ _=>trivial) (λvR HR hR=>?_);obtain⟨rfl,rfl⟩:=hR;refine tp (OX (a:=[109,97,99,104,105,110,101,32]) (b:=l7 i) rfl rfl rfl (by simp[l7])) ?_;refine lc ?_;refine nx J1 ?_;refine aa λ_ J2=>?_
 refine sr λ_ J3=>?_
 refine mv ?_;refine tp (eR rfl rfl) ?_;refine tp (aW (r:=0) rfl En rfl Hj rfl rfl) ?_;refine tp (ek (v:=(.pointer (some ⟨c,0,none⟩))) rfl Lv rfl rfl (du 0 rfl rfl) rfl) ?_;refine mv ?_;refine dM (ab rfl) rfl rfl rfl Ds rfl (jV (c:=c) (g:=g) (i:=i) hup hi) (λ_ s=>aA [2] rfl s) (λ_ _ _=>trivial) (λvR HR hR=>?_);obtain⟨rfl,rfl⟩:=hR;refine lc ?_;refine nx J3 ?_;refine sr λ_ J4=>?_
 refine mv ?_;refine tp (fG rfl nS rfl rfl) ?_;refine nx J4 ?_;refine nN rfl ?_;refine sr λ_ J5=>?_
 refine mv ?_;refine dM (ab rfl) rfl rfl rfl Gh rfl (sd (i:=i) hi (lK hup hi) (kK (mr a i) (g.d i) (g.r i))) (λ_ s=>s) (λ_ _ _=>trivial) (λvR HR hR=>?_);obtain⟨hv2,rfl⟩:=hR;rw[hvw i hi]at hv2;subst hv2;refine lA (ab rfl) rfl rfl rfl rf (λb6=>?_);change TL _ _ _ _ _ _ _ _ _ [aj b6 (ints ViewT.zero.flat) 32,dB c a g,aj t [(.pointer (some ⟨c,0,none⟩)),A,v] 102,cu v (bs) 5];refine bL (vs:=ints firstV.flat) (i:=0) (ab rfl) rfl rfl rfl rfl rfl (by rw[(an firstV)];exact be) (bm _) rfl rfl (by have h0:=(an ViewT.zero);have h1:=(an firstV);omega) (cg ((an ViewT.zero).trans (an firstV).symm)) rfl ?_;refine nx J5 ?_;refine aa λ_ J6=>?_
 refine oX (λw=>Frm F w∧w.heap[b6]?=some (.cells (ints firstV.flat).toArray 32 (0,0))∧True) cN rfl (λ_ s=>⟨dG s,s.block 0 (lb rfl) rfl,trivial⟩) ?_;refine ta 0 rfl (aW (r:=0) rfl dS rfl aO rfl rfl) ?_;refine ta 1 rfl (kB (v':=(.int .i64 1)) (ek (v:=(.int .i64 (firstV.epoch))) rfl Y3 rfl rfl (λ_ h=>h.2.1) (aU firstV rfl)) rfl) ?_;refine ta 2 rfl (iW rfl rfl) ?_;refine ta 6 rfl (aW (r:=1) rfl dS rfl aO rfl rfl) ?_;refine ta 7 rfl (kB (v':=(.int .i64 7)) (ek (v:=(.int .i64 (firstV.members))) rfl Y3 rfl rfl (λ_ h=>h.2.1) (jC firstV rfl)) rfl) ?_;refine cx [3] (by kernel_rfl) rfl ?_;refine aE rfl ?_ ?_;refine dM (ab rfl) rfl rfl rfl OC rfl (sd (i:=i) hi (lK hup hi) (F7 (mr a i) (g.d i) (g.r i))) (λ_ s=>aA [1] rfl s) (λ_ _ _=>trivial) (λvR HR hR=>?_);obtain⟨rfl,rfl⟩:=hR;refine ap ?_;refine ka (λ_ s=>⟨dG s,s.block 1 (lb rfl) rfl,trivial⟩) ?_;refine ta 4 rfl (xb (cs:=ints ((mr a i).own).flat) (v:=Value.int .i64 (((mr a i).own).version)) rfl dI rfl Y3 rfl rfl (cA ((mr a i).own) rfl)) ?_;refine cx [5,8] (by kernel_rfl) rfl ?_;refine aE rfl ?_ ?_;refine aL (cells:=#[(.int .i64 1),(.int .i64 (((mr a i).own).version))]) (ab rfl) rfl rfl rfl ii nf rfl rfl rfl (by as_aux_lemma=>kernel_rfl) (λb32=>?_);refine ap ?_;refine ka (λ_ s=>⟨dG s,s.block 2 (lb rfl) rfl,trivial⟩) ?_;refine cx [8] (by kernel_rfl) rfl ?_;refine aE rfl ?_ ?_
 refine dM (ab rfl) rfl rfl rfl JA rfl (yh) (λ_ s=>s) (λ_ _ _=>trivial) (λvR HR hR=>?_);obtain⟨_,rfl,rfl⟩:=hR;revert vR;intro u7;refine ap ?_;refine ka (λ_ s=>⟨dG s,s.block 3 (lb rfl) rfl,trivial⟩) ?_;refine cx [9] (by kernel_rfl) rfl ?_;refine aE rfl ?_ ?_;refine ce (H':=[own u7 (3) ([.int .i64 0, .int .i64 1, .int .i64 2]) 3 1,own (.slice (some ⟨b32,0,none⟩) (2) (2)) (2) ([.int .i64 1, .int .i64 (mr a i).own.version]) 3 1,dB c a g,aj b6 (ints firstV.flat) 32,aj t [(.pointer (some ⟨c,0,none⟩)),A,v] 102,cu v (bs) 5]) (λ_ s=>rI (g:=b32) (cap:=2) (nn:=2) (e:=3) (cur:=[.int .i64 1, .int .i64 (mr a i).own.version]) (xs:=[.int .i64 1, .int .i64 (mr a i).own.version]) 1 rfl rfl (by decide) (by decide) rfl rfl s) ?_;refine bO (k:=1) (news:=[.int .i64 0, .int .i64 1, .int .i64 2]) (nn':=5) (xs':=[.int .i64 1, .int .i64 (mr a i).own.version, .int .i64 0, .int .i64 1, .int .i64 2]) (ab rfl) rfl rfl rfl ii nf rfl rfl rfl rfl rfl rfl (λ_ s=>IN 0 rfl rfl s) (by intro u hu;simp only[bT,List.not_mem_nil,or_false]at hu;rcases hu with rfl|rfl|rfl<;>rfl) (by decide) (by decide) rfl rfl (λv36 ov36=>?_);refine ap ?_;refine ka (λ_ s=>⟨dG s,s.block 3 (lb rfl) rfl,trivial⟩) ?_;refine ta 10 rfl (Cy rfl rfl) ?_;refine O5 (by kernel_rfl) ?_;refine ac J6 ?_;refine ad ?_;refine mv ?_;refine mv ?_
 refine tp (OX (a:=[109,97,99,104,105,110,101,32]++l7 i) (b:=[32,117,112]) rfl rfl rfl (by simp[l7])) ?_;refine mv ?_;refine dM (ab rfl) rfl rfl rfl Lc rfl (tg t c A v v36 bs ([109,97,99,104,105,110,101,32]++l7 i++[32,117,112]) [1,(mr a i).own.version,0,1,2] hA hv (Kz hvd) (by simp[l7];omega)) (λ_ s=>aA [4,4] rfl s) (sh (l:=[1,(mr a i).own.version,0,1,2]) 1 rfl rfl) (λvR HR hR=>?_);obtain⟨w1,hw1,rfl⟩:=hR;refine nx J2 ?_;refine sr λ_ J7=>?_
 refine mv ?_;refine tp (eR rfl rfl) ?_;refine tp (aW (r:=0) rfl En rfl Hj rfl rfl) ?_;refine tp (ek (v:=(.pointer (some ⟨c,0,none⟩))) rfl Lv rfl rfl (du 0 rfl rfl) rfl) ?_;refine mv ?_;refine dM (ab rfl) rfl rfl rfl Gg rfl (n6 (i:=i) hok hn hi) (λ_ s=>aA [4] rfl s) (λ_ _ _=>trivial) (λvR HR hR=>?_);obtain⟨_,_,rfl,hH⟩:=hR;revert vR;intro ur h1 hH;rw[hrs]at hH;subst hH;refine gj 1 rfl rfl (λhlr _=>?_);refine tp (c8 rfl El rfl hlr) ?_;refine mv ?_;refine nx J7 ?_;refine am ?_;refine gK 1 ?_;refine sr λ_ J8=>?_
 refine tp (xU rfl rfl rfl) ?_;refine nx J8 ?_;refine aa λ_ J9=>?_
 refine nN rfl ?_;refine aV ?_;refine ay ?_;refine ay ?_;refine bh ?_;refine aF (cZ _) (λ_ s=>ak [2,2,0] rfl s) ?_;refine br rfl ?_;exact⟨_,hw1,rfl⟩;exact bz;exact bz;refine aE rfl ?_ ?_;refine dM (ab rfl) rfl rfl rfl JA rfl (yh) (λ_ s=>s) (λ_ _ _=>trivial) (λvR HR hR=>?_);obtain⟨_,rfl,rfl⟩:=hR;revert vR;intro u7;refine ap ?_;refine ka (λ_ s=>⟨dG s,s.block 2 (lb rfl) rfl,trivial⟩) ?_;refine cx [5] (by kernel_rfl) rfl ?_;refine aE rfl ?_ ?_;refine aL (cells:=#[(.int .i64 1),(.int .i64 (((mr a i).own).version))]) (ab rfl) rfl rfl rfl ii nf rfl rfl rfl (by as_aux_lemma=>kernel_rfl) (λb32=>?_);refine ap ?_;refine ka (λ_ s=>⟨dG s,s.block 3 (lb rfl) rfl,trivial⟩) ?_;refine cx [9] (by kernel_rfl) rfl ?_;refine aE rfl ?_ ?_;refine ce (H':=[own (.slice (some ⟨b32,0,none⟩) (2) (2)) (2) ([.int .i64 1, .int .i64 (mr a i).own.version]) 3 1,own u7 (3) ([.int .i64 0, .int .i64 1, .int .i64 2]) 3 1,dB c a g,aj b6 (ints firstV.flat) 32,aj t [(.pointer (some ⟨c,0,none⟩)),A,v] 102,cu v (bs) 5]) (λ_ s=>rI (g:=b32) (cap:=2) (nn:=2) (e:=3) (cur:=[.int .i64 1, .int .i64 (mr a i).own.version]) (xs:=[.int .i64 1, .int .i64 (mr a i).own.version]) 0 rfl rfl (by decide) (by decide) rfl rfl s) ?_
 refine bO (k:=0) (news:=[.int .i64 0, .int .i64 1, .int .i64 2]) (nn':=5) (xs':=[.int .i64 1, .int .i64 (mr a i).own.version, .int .i64 0, .int .i64 1, .int .i64 2]) (ab rfl) rfl rfl rfl ii nf rfl rfl rfl rfl rfl rfl (λ_ s=>IN 1 rfl rfl s) (by intro u hu;simp only[bT,List.not_mem_nil,or_false]at hu;rcases hu with rfl|rfl|rfl<;>rfl) (by decide) (by decide) rfl rfl (λv36 ov36=>?_);refine ap ?_;refine ka (λ_ s=>⟨dG s,s.block 3 (lb rfl) rfl,trivial⟩) ?_;refine ta 10 rfl (Cy rfl rfl) ?_;refine O5 (by kernel_rfl) ?_;refine ac J6 ?_;refine ad ?_;refine mv ?_;refine mv ?_;refine tp (OX (a:=[109,97,99,104,105,110,101,32]++l7 i) (b:=[32,117,112]) rfl rfl rfl (by simp[l7])) ?_;refine mv ?_;refine dM (ab rfl) rfl rfl rfl Lc rfl (tg t c A v v36 bs ([109,97,99,104,105,110,101,32]++l7 i++[32,117,112]) [1,(mr a i).own.version,0,1,2] hA hv (Kz hvd) (by simp[l7];omega)) (λ_ s=>aA [4,4] rfl s) (sh (l:=[1,(mr a i).own.version,0,1,2]) 0 rfl rfl) (λvR HR hR=>?_);obtain⟨w1,hw1,rfl⟩:=hR;refine nx J2 ?_;refine sr λ_ J10=>?_
 refine mv ?_;refine tp (eR rfl rfl) ?_;refine tp (aW (r:=0) rfl En rfl Hj rfl rfl) ?_;refine tp (ek (v:=(.pointer (some ⟨c,0,none⟩))) rfl Lv rfl rfl (du 0 rfl rfl) rfl) ?_;refine mv ?_;refine dM (ab rfl) rfl rfl rfl Gg rfl (n6 (i:=i) hok hn hi) (λ_ s=>aA [4] rfl s) (λ_ _ _=>trivial) (λvR HR hR=>?_);obtain⟨_,_,rfl,hH⟩:=hR;revert vR;intro ur h1 hH;rw[hrs]at hH;subst hH;refine gj 1 rfl rfl (λhlr _=>?_);refine tp (c8 rfl El rfl hlr) ?_;refine mv ?_;refine nx J10 ?_;refine am ?_;refine gK 1 ?_;refine sr λ_ J11=>?_
 refine tp (xU rfl rfl rfl) ?_;refine nx J11 ?_;refine aa λ_ J12=>?_
 refine nN rfl ?_;refine aV ?_;refine ay ?_;refine ay ?_;refine bh ?_;refine aF (cZ _) (λ_ s=>ak [2,2,0] rfl s) ?_;refine br rfl ?_;exact⟨_,hw1,rfl⟩;exact bz;exact bz;exact bz;exact bz
def oe(a:CL)(i:Nat):List UInt8:=(List.range i).flatMap (cy a)
theorem Gk(a:CL)(i:Nat):(cy a i).length=23:=by simp[cy,tU,mE,tm,l7]
theorem tT(a:CL)(i:Nat):oe a (i+1)=oe a i++cy a i:=by unfold oe;rw[cC,mf];simp
theorem qO(a:CL): ∀i,(oe a i).length=23*i
 |0=>rfl
 |i+1=>by rw[tT,ag,qO a i,Gk];omega
def JN(k:Nat):List UInt8:=tU [99,111,117,110,116,101,114] [((k:Nat):Int),0,0,0,0,0,0]
theorem It(k:Nat):(JN k).length=22:=by simp[JN,tU,mE,tm,l7]
def k9(a:CL)(k:Nat):List UInt8:=oe a 5++(List.range k).flatMap JN
theorem ve(a:CL):k9 a 0=oe a 5:=a8 _
theorem vf(a:CL)(k:Nat):k9 a (k+1)=k9 a k++JN k:=by unfold k9;rw[cC,mf,aZ];simp
theorem mh(a:CL): ∀k,(k9 a k).length=115+22*k
 |0=>by rw[ve,qO]
 |k+1=>by rw[vf,ag,mh a k,It];omega
theorem KL{k:Nat}(hk:k<4):jf BookT.zero ((k:Nat):Int)=0:=by
 match k,hk with
 |0,_|1,_|2,_|3,_=>show _=_;kernel_rfl
theorem Nf{k:Nat}(hk:k<4): ∀m∈([((k:Nat):Int),0,0,0,0,0,0]:List Int),0≤m∧m<10:=by
 intro m hm;simp only[bT,List.not_mem_nil,or_false]at hm;rcases hm with rfl|rfl|rfl|rfl|rfl|rfl|rfl
 · omega
 all_goals decide
theorem xj(c:Nat)(a:CL)(g:CX)(hup:oK a)(hvw: ∀j,j<5→(mr a j).view=firstV)(hwf: ∀j i,j<5→i<5→WF (cJ (mr a j).mirror ((i:Nat):Int)).flat)(htz:qy a=BookT.zero)(hvd: ∀i,i<5→0≤(mr a i).own.version∧(mr a i).own.version<10)(hrs: ∀i,i<5→(a.at' i).reps=[])(n:Nat)(hok:CLOk n a)(hn:n≤100000):
 DT 19 #[(.pointer (some ⟨c,0,none⟩))] T0 [dB c a g] (RI (jS (k9 a 4)) [dB c a g]):=by
 refine BD 40 Tryz.func19 rfl rfl rfl λw0 F hF=>sr λ_ J1=>PS ?_
 refine nx J1 (sr λ_ J2=>PS ?_);refine BV #[(.pointer (some ⟨c,0,none⟩)),(.pointer none),(.slice none 0 0)] ?_;refine XB λb10=>?_
 refine PS ?_;refine nx J2 (aa λ_ J3=>sr λ_ J4=>PS ?_);refine nx J4 (am ?_)
 refine bu (α:=(Nat)×(Value)×(Value)) (λ⟨i,A,v⟩=>i≤5∧(A= .pointer none∨A=(.pointer (some ⟨b10,1,none⟩)))∧v.oneCell'=true∧(0<i→A=(.pointer (some ⟨b10,1,none⟩)))) (λ⟨i,A,v⟩=>[(0,(.pointer (some ⟨c,0,none⟩))),(2,(jS ([]))),(3,(.pointer (some ⟨b10,0,none⟩))),(11,(.int .i64 (((i:Nat):Int))))]) (λ⟨i,A,v⟩=>[aj b10 [(.pointer (some ⟨c,0,none⟩)),A,v] 102,cu v (oe a i) 5,dB c a g]) (λ⟨i,A,v⟩=>5-i) (0, .pointer none, .slice none 0 0)
  ⟨aN _,Or.inl rfl,rfl,λh=>absurd h (by decide)⟩ SB
  (λ_ s=>aA [1,0,0] rfl (fq 5 1 s)) (λ⟨i,A,v⟩ hinv=>?_)
 obtain⟨hi,hA,hv,hself⟩:=hinv;refine sr λ_ J5=>PS ?_
 refine ao ?_ ?_<;>intro h12;refine nx J5 (aa λ_ J6=>CY (qx J6 (aa λ_ J7=>am (sr λ_ J8=>P2 ?_))));refine nx J8 (ad (P2 ?_));refine CR Om (CM b10 c A v (oe a i) a g i (by omega) hA hv (by rw[qO];omega) hup hvw (hvd i (by omega)) (hrs i (by omega)) n hok hn) ID λvR HR hR=>?_
 obtain⟨w1,hw1,rfl⟩:=hR;refine ap (af (ac J7 (ad (AD ?_))));refine PS ?_;refine ap ?_
 exact aJ ((i+1,(.pointer (some ⟨b10,1,none⟩)),w1):(Nat)×(Value)×(Value)) ⟨by omega,Or.inr rfl,hw1,λ_=>rfl⟩ (by show 5- (i+1)<5-i;omega)
  SB
  (λ_ s=>by
   show bK [aj b10 [(.pointer (some ⟨c,0,none⟩)),(.pointer (some ⟨b10,1,none⟩)),w1] 102,cu w1 (oe a (i+1)) 5,dB c a g] _;rw[tT]
   exact ak [0,0,0] rfl s)
 obtain rfl:A=(.pointer (some ⟨b10,1,none⟩)):=hself (by omega);obtain rfl:i=5:=by omega
 refine nx J5 (aa λ_ J9=>CN (aV (ay (ay (bh (ac J3 (sr λ_ J10=>PS ?_)))))));refine CR Ld (qw c a g hup hwf) (SM [2]) λvR HR hR=>?_
 obtain⟨bk,rfl,rfl⟩:=hR;rw[htz];refine PS ?_;refine nx J10 (aa λ_ J11=>sr λ_ J12=>PS ?_);refine nx J12 (am ?_)
 refine bu (α:=(Nat)×(Value)) (λ⟨k,v⟩=>k≤4∧v.oneCell'=true) (λ⟨k,v⟩=>[(0,(.pointer (some ⟨c,0,none⟩))),(2,(jS ([]))),(3,(.pointer (some ⟨b10,0,none⟩))),(5,(.pointer (some ⟨bk,0,none⟩))),(20,(.int .i64 (((k:Nat):Int))))]) (λ⟨k,v⟩=>[aj b10 [(.pointer (some ⟨c,0,none⟩)),(.pointer (some ⟨b10,1,none⟩)),v] 102,cu v (k9 a k) 5,dB c a g,aj bk (ints BookT.zero.flat) 85]) (λ⟨k,v⟩=>4-k) (0,v)
  ⟨aN _,hv⟩ SB
  (λ_ s=>by
  show bK [aj b10 [(.pointer (some ⟨c,0,none⟩)),(.pointer (some ⟨b10,1,none⟩)),v] 102,cu v (k9 a 0) 5,dB c a g,aj bk (ints BookT.zero.flat) 85] _;rw[ve]
  exact aA [2,2,0,0] rfl s) (λ⟨k,v⟩ hinv=>?_)
 obtain⟨hk,hv⟩:=hinv;refine sr λ_ J13=>PS ?_
 refine ao ?_ ?_<;>intro h21;refine nx J13 (aa λ_ J14=>CY (qx J14 (aa λ_ J15=>am (sr λ_ J16=>P2 ?_))));refine nx J16 (sr λ_ J17=>P2 ?_);refine CR OB (AY c a g hup hvw hwf htz k (by omega)) (SM [2]) λvR HR hR=>?_
 obtain⟨hv3,rfl⟩:=hR;obtain rfl:vR=(.agg (ints (#v[0,0,0,0,0]:Vector Int 5).toList).toArray):=hv3;refine XZ LN (ints (#v[0,0,0,0,0]).toList) λb7=>?_
 refine bL (vs:=ints (#v[0,0,0,0,0]:Vector Int 5).toList) (i:=0) (ab rfl) rfl rfl rfl rfl rfl (by rw[(cI (#v[0,0,0,0,0]:Vector Int 5))];exact fb) (bm _) rfl rfl (by have h0:=(cI (#v[0,0,0,0,0]));have h1:=(cI (#v[0,0,0,0,0]:Vector Int 5));omega) (cg ((cI (#v[0,0,0,0,0])).trans (cI (#v[0,0,0,0,0]:Vector Int 5)).symm)) rfl (nx J17 (D0 cN ?_));refine PD 0 ?_;refine PD 1 ?_;refine PD 2 ?_;refine PD 3 ?_;refine ta 6 rfl (m9 rfl jA aO rfl) ?_;refine AL 4 ?_;refine CR Jz (ky bk 0 85 (λx=>ints x.flat) oT BookT.zero ((k:Nat):Int)) (SM [4]) λvR HR hR=>?_
 obtain⟨hv4,rfl⟩:=hR;rw[KL (by omega)]at hv4;subst hv4;refine EN (AL 5 ?_);refine aL (cells:=#[(.int .i64 (((k:Nat):Int))),(.int .i64 0)]) (ab rfl) rfl rfl rfl ii nf rfl rfl rfl (by as_aux_lemma=>kernel_rfl) (λb31=>EN (AL 7 ?_));refine ce (H':=[own (.slice (some ⟨b31,0,none⟩) (2) (2)) (2) ([.int .i64 ((k:Nat):Int), .int .i64 0]) 3 1,aj bk (ints BookT.zero.flat) 85,aj b7 (ints (#v[0,0,0,0,0]:Vector Int 5).toList) 30,dB c a g,aj b10 [(.pointer (some ⟨c,0,none⟩)),(.pointer (some ⟨b10,1,none⟩)),v] 102,cu v (k9 a k) 5]) (λ_ s=>rI (g:=b31) (cap:=2) (nn:=2) (e:=3) (cur:=[.int .i64 ((k:Nat):Int), .int .i64 0]) (xs:=[.int .i64 ((k:Nat):Int), .int .i64 0]) 0 rfl rfl (by decide) (by decide) rfl rfl s) (bO (k:=0) (news:=[.int .i64 0, .int .i64 0, .int .i64 0, .int .i64 0, .int .i64 0]) (nn':=7) (xs':=[.int .i64 ((k:Nat):Int), .int .i64 0, .int .i64 0, .int .i64 0, .int .i64 0, .int .i64 0, .int .i64 0]) (ab rfl) rfl rfl rfl ii nf rfl rfl rfl rfl rfl rfl (λ_ _=>fB rfl (RO 2) rfl) (by intro u hu;simp only[bT,List.not_mem_nil,or_false]at hu;rcases hu with rfl|rfl|rfl|rfl|rfl<;>rfl) (by decide) (by decide) rfl rfl (λv33 ov33=>EN (AL 8 ?_)))
 refine CQ Lc (tg b10 c (.pointer (some ⟨b10,1,none⟩)) v v33 (k9 a k) [99,111,117,110,116,101,114] [((k:Nat):Int),0,0,0,0,0,0] (Or.inr rfl) hv (Nf (by omega)) (by rw[mh];simp;omega)) (SM [4,4]) (sh (l:=[((k:Nat):Int),0,0,0,0,0,0]) 0 rfl rfl) λvR HR hR=>?_
 obtain⟨w2,hw2,rfl⟩:=hR;refine EN (DN (af (ac J15 (ad (AD ?_)))));refine PS ?_;refine ap ?_
 exact aJ ((k+1,w2):(Nat)×(Value)) ⟨by omega,hw2⟩ (by show 4- (k+1)<4-k;omega)
  SB
  (λ_ s=>by
   show bK [aj b10 [(.pointer (some ⟨c,0,none⟩)),(.pointer (some ⟨b10,1,none⟩)),w2] 102,cu w2 (k9 a (k+1)) 5,dB c a g,aj bk (ints BookT.zero.flat) 85] _;rw[vf]
   exact ak [0,0,3,1] rfl s)
 obtain rfl:k=4:=by omega
 refine nx J13 (aa λ_ J18=>CN (aV (ay (ay (bh (ac J11 (sr λ_ J19=>P2 ?_)))))));refine FA 1 En vp ?_;refine CE Ol (AN b10 c v (k9 a 4) (by rw[mh];omega) (by rw[mh];decide)) ID ?_;refine PS ?_;exact nx J19 (ah (WK [1] (av rfl rfl ⟨rfl,rfl⟩)))
end Go.Proofs.YtfocodjhmkokpaaGreatDoor
end

section
namespace Api
open Go Leg Codec Wal
def hv(a b:Int):UInt8:=r8 (a%16+b%16*16)
theorem Me: ∀(x y:Fin 16),ig .i64 ((x.val:Nat):Int) (((y.val*16:Nat):Nat):Int)=((x.val+y.val*16:Nat):Int):=by decide+kernel
theorem N2(a b:Int):ig .i64 (a%16) (b%16*16)=a%16+b%16*16:=by
 have:=Me ⟨(a%16).toNat,by omega⟩ ⟨(b%16).toNat,by omega⟩;simp only at this;rw[show(((a%16).toNat:Nat):Int)=a%16 by omega,show((((b%16).toNat*16:Nat):Nat):Int)=b%16*16 by omega]at this;rw[this];omega
theorem Ls: ∀b:Fin 256,qc .u8 ((b.val:Nat):Int) 15=((b.val%16:Nat):Int):=by decide+kernel
theorem L5: ∀b:Fin 256,((b.val:Nat):Int).fdiv (2^min (4:Int).toNat IntKind.u8.bits)=((b.val / 16:Nat):Int):=by decide+kernel
def BY(o:OpT):List UInt8:=[hv o.kind o.at',hv o.to' o.key,r8 o.n]++(if o.kind=4 then [hv o.change.kind o.change.who,r8 o.change.heir]else [r8 o.mask,r8 (o.torn+1)])
def fN(l:List OpT):List UInt8:=l.flatMap BY
def jW(b:UInt8):Int:=((b.toNat%16:Nat):Int)
def kd(b:UInt8):Int:=((b.toNat / 16:Nat):Int)
def n8(b:UInt8):Int:=((b.toNat:Nat):Int)
def iT(b0 b1 b2 b3 b4:UInt8):OpT:=
 if jW b0=4 then⟨jW b0,kd b0,jW b1,kd b1,n8 b2,⟨jW b3,kd b3,n8 b4⟩,0,0,0⟩
 else if jW b0=10 then⟨jW b0,kd b0,jW b1,kd b1,n8 b2, .zero,n8 b3,n8 b4-1,n8 b2⟩
 else⟨jW b0,kd b0,jW b1,kd b1,n8 b2, .zero,0,0,0⟩
def xw:List UInt8→List OpT
 |b0::b1::b2::b3::b4::r=>iT b0 b1 b2 b3 b4::xw r
 |_=>[]
theorem G1(x:Int):IntKind.i64.wrap x%256=x%256:=by
 simp only[IntKind.wrap,IntKind.signed,IntKind.bits];simp;split<;>omega
theorem Bh(x:Int):r8 (IntKind.i64.wrap x)=r8 x:=by unfold r8;rw[G1]
theorem s8{r:List UInt8}(h:5≤r.length):xw r=iT (r.getD 0 0) (r.getD 1 0) (r.getD 2 0) (r.getD 3 0) (r.getD 4 0)::xw (r.drop 5):=by
 match r,h with
 |b0::b1::b2::b3::b4::r,_=>rfl
theorem Ga{r:List UInt8}(h:r.length<5):xw r=[]:=by
 match r,h with
 | [],_| [_],_| [_,_],_| [_,_,_],_| [_,_,_,_],_=>rfl
theorem GE(o:OpT):(BY o).length=5:=by unfold BY;split<;>rfl
theorem DR(l:List OpT):(fN l).length=5*l.length:=by
 induction l with
 |nil=>rfl
 |cons o l ih=>rw[fN,cS,ag,GE,aw];unfold fN at ih;rw[ih];omega
theorem Kw(b:UInt8):0≤n8 b∧n8 b<256:=by unfold n8;have:=b.toNat_lt;omega
theorem OpT.flat_length(o:OpT):o.flat.length=11:=by simp[OpT.flat,ChangeT.flat]
end Api
end

section
namespace Go.Proofs.YtfocodjhmkokpaaGreatDoor
open Go Leg Codec Api Dsk Wal
theorem pB(a b:Int):
 DT 70 #[(.int .i64 (a)),(.int .i64 (b))] T0 [] (RI (.int .u8 (((hv a b).toNat:Nat):Int)) []):=by
 refine BD 12 Tryz.func70 rfl rfl rfl λw0 F hF=>sr λ_ J1=>PS ?_
 refine nx J1 (sr λ_ J2=>PS ?_);refine tp (iD (r:=(a%16)) rfl rfl rfl (mask (k:=4) (by decide) _)) ?_;refine PS ?_;refine tp (iD (r:=(b%16)) rfl rfl rfl (mask (k:=4) (by decide) _)) ?_;refine tp (uJ (r:=(b%16*16)) rfl rfl rfl (by omega) (by show IntKind.i64.wrap (b%16*16)=_;exact bG (by omega) (by omega))) ?_;refine tp (Ff (r:=(a%16+b%16*16)) rfl rfl rfl (N2 a b)) ?_;refine tp (cp (r:=(((hv a b).toNat:Nat):Int)) rfl Y3 Y5 rfl (r8_wrap _)) ?_;refine PS ?_;exact nx J2 (ah (WK [] (av rfl rfl ⟨rfl,rfl⟩)))
theorem wg(x:Value)(l:List OpT)(hl:l.length≤1000000):
 DT 44 #[x] (IsL 11 (EF OpT.flat) x l) [] (c9 (λr' H=>∃u,r'=u∧H=[cu u (fN l) 5])):=by
 refine BD 57 Tryz.func44 rfl rfl rfl λw0 F hF=>sr λ_ J1=>PS ?_
 refine nx J1 (sr λ_ J2=>PS ?_);refine nx J2 (aa λ_ J3=>sr λ_ J4=>PS ?_);refine tp (c8 rfl IK rfl hF.len) ?_;refine PS ?_;refine nx J4 (am ?_)
 refine bu (α:=(Nat)×(Value)) (λ⟨k,u⟩=>k≤l.length∧u.oneCell'=true) (λ⟨k,u⟩=>[(2,(.slice none 0 0)),(3,u),(6,x),(7,(.int .i64 (((l.length:Nat):Int)))),(8,(.int .i64 (((k:Nat):Int))))]) (λ⟨k,u⟩=>[cu u (fN (l.take k)) 5]) (λ⟨k,u⟩=>l.length-k) (0,(.slice none 0 0))
  ⟨aN _,rfl⟩ SB
  (λ_ s=>fq 5 1 s) (λ⟨k,u⟩ hinv=>?_)
 obtain⟨hk,hu⟩:=hinv;have hlen:=DR (l.take k);rw[bq]at hlen;refine sr λ_ J5=>PS ?_
 refine ao ?_ ?_<;>intro h9;obtain⟨b_a,off_a,cap_a,cs_a,T_a,z_a,us_a,hv_a,hc_a,hb_a,hl_a,hs_a,hE_a⟩:=IsL.at hF (j:=k) (by omega);replace hE_a:us_a=ints l[k].flat:=hE_a;refine nx J5 (aa λ_ J6=>CY (qx J6 (aa λ_ J7=>am (sr λ_ J8=>tp (bg (r:=off_a+k*11) hv_a rfl IK qG rfl rfl (by omega) (by omega) (by omega)) ?_))));refine tp (Cx (vs:=ints (l[k]).flat) rfl eI rfl qG rfl (iV hb_a (λ_ h=>dG h)) (gq _) (hs_a.trans hE_a)) ?_;refine XZ NO (ints OpT.zero.flat) λb5=>?_
 refine SW 0 qG gq ?_;refine nx J8 (aa λ_ J9=>D1 0 bf ?_);refine PD 0 ?_;refine FD 1 0 eI aO ?_;refine LX 2 Y3 (.int .i64 ((l[k]).kind)) ?_ (hc:=by exact cB _ rfl);refine FD 3 1 eI aO ?_;refine LX 4 Y3 (.int .i64 ((l[k]).at')) ?_ (hc:=by exact bM _ rfl);refine FD 6 2 eI aO ?_;refine LX 7 Y3 (.int .i64 ((l[k]).to')) ?_ (hc:=by exact gN _ rfl);refine FD 8 3 eI aO ?_;refine LX 9 Y3 (.int .i64 ((l[k]).key)) ?_ (hc:=by exact mV _ rfl);refine FD 11 4 eI aO ?_;refine LX 12 Y3 (.int .i64 ((l[k]).n)) ?_ (hc:=by exact pS _ rfl);refine ta 13 rfl (cp (r:=(((r8 ((l[k]).n)).toNat:Nat):Int)) rfl Y3 Y5 rfl (r8_wrap _)) ?_;refine AL 5 ?_;refine CE K7 (pB ((l[k]).kind) ((l[k]).at')) ID ?_;refine EN (AL 10 ?_);refine CE K7 (pB ((l[k]).to') ((l[k]).key)) ID ?_;refine EN (AL 14 ?_);refine aL (cells:=#[(.int .u8 ((((hv ((l[k]).kind) ((l[k]).at')).toNat:Nat):Int))),(.int .u8 ((((hv ((l[k]).to') ((l[k]).key)).toNat:Nat):Int))),(.int .u8 ((((r8 ((l[k]).n)).toNat:Nat):Int)))]) (ab rfl) rfl rfl rfl e8 sH rfl rfl rfl (by as_aux_lemma=>kernel_rfl) (λb26=>EN (AL 15 ?_))
 refine bO (k:=2) (news:=dw ([(hv ((l[k]).kind) ((l[k]).at')),(hv ((l[k]).to') ((l[k]).key)),(r8 ((l[k]).n))])) (nn':=(fN (l.take k)++[(hv ((l[k]).kind) ((l[k]).at')),(hv ((l[k]).to') ((l[k]).key)),(r8 ((l[k]).n))]:List UInt8).length) (xs':=dw (fN (l.take k)++[(hv ((l[k]).kind) ((l[k]).at')),(hv ((l[k]).to') ((l[k]).key)),(r8 ((l[k]).n))])) (ab rfl) rfl rfl rfl e8 sH rfl rfl rfl rfl rfl rfl (λ_ _=>fB rfl (RO 0) rfl) (eB [(hv ((l[k]).kind) ((l[k]).at')),(hv ((l[k]).to') ((l[k]).key)),(r8 ((l[k]).n))]) (by simp only[maxLen,aw,az,ag];omega) (by first|omega| (simp only[aw,az,ag];omega)) (by simp) (fL _ _).symm (λv27 ov27=>EN (PD 16 ?_));refine DN (ac J9 (sr λ_ J10=>FA 0 eI aO ?_));refine LT 1 Y3 (.int .i64 ((l[k]).kind)) ?_ (hc:=by exact cB _ rfl);refine PS ?_;refine ao ?_ ?_<;>intro h30;refine nx J10 (CY (D1 1 bf ?_));refine PD 0 ?_;refine FD 1 5 eI eZ ?_;refine FD 2 5 lW aO ?_;refine LX 3 Y3 (.int .i64 (((l[k]).change).kind)) ?_ (hc:=by exact OQ (l[k]) 0 rfl (by decide) (ChangeT.at_kind _ rfl));refine FD 4 5 eI eZ ?_;refine FD 5 6 lW aO ?_;refine LX 6 Y3 (.int .i64 (((l[k]).change).who)) ?_ (hc:=by exact OQ (l[k]) 1 rfl (by decide) (gB _ rfl));refine FD 8 5 eI eZ ?_;refine FD 9 7 lW aO ?_;refine LX 10 Y3 (.int .i64 (((l[k]).change).heir)) ?_ (hc:=by exact OQ (l[k]) 2 rfl (by decide) (mT _ rfl));refine ta 11 rfl (cp (r:=(((r8 (((l[k]).change).heir)).toNat:Nat):Int)) rfl Y3 Y5 rfl (r8_wrap _)) ?_;refine AL 7 ?_
 refine CE K7 (pB (((l[k]).change).kind) (((l[k]).change).who)) ID ?_;refine EN (AL 12 ?_);refine aL (cells:=#[(.int .u8 ((((hv (((l[k]).change).kind) (((l[k]).change).who)).toNat:Nat):Int))),(.int .u8 ((((r8 (((l[k]).change).heir)).toNat:Nat):Int)))]) (ab rfl) rfl rfl rfl e8 sH rfl rfl rfl (by as_aux_lemma=>kernel_rfl) (λb43=>EN (AL 13 ?_));refine bO (k:=3) (news:=dw ([(hv (((l[k]).change).kind) (((l[k]).change).who)),(r8 (((l[k]).change).heir))])) (nn':=(fN (l.take k)++[(hv ((l[k]).kind) ((l[k]).at')),(hv ((l[k]).to') ((l[k]).key)),(r8 ((l[k]).n))]++[(hv (((l[k]).change).kind) (((l[k]).change).who)),(r8 (((l[k]).change).heir))]:List UInt8).length) (xs':=dw (fN (l.take k)++[(hv ((l[k]).kind) ((l[k]).at')),(hv ((l[k]).to') ((l[k]).key)),(r8 ((l[k]).n))]++[(hv (((l[k]).change).kind) (((l[k]).change).who)),(r8 (((l[k]).change).heir))])) (ab rfl) rfl rfl rfl e8 sH rfl rfl rfl rfl rfl rfl (λ_ _=>fB rfl (RO 0) rfl) (eB [(hv (((l[k]).change).kind) (((l[k]).change).who)),(r8 (((l[k]).change).heir))]) (by simp only[maxLen,aw,az,ag];omega) (by first|omega| (simp only[aw,az,ag];omega)) (by simp) (fL _ _).symm (λv44 ov44=>EN (PD 14 ?_));refine DN (af (ac J7 (ad (AD ?_))));refine PS ?_;refine ap ?_
 exact aJ ((k+1,v44):(Nat)×(Value)) ⟨by omega,ov44⟩ (by show l.length- (k+1)<l.length-k;omega)
  SB
  (λ_ s=>by
   show bK [cu v44 (fN (l.take (k+1))) 5] _;rw[show fN (l.take (k+1))=fN (l.take k)++[(hv ((l[k]).kind) ((l[k]).at')),(hv ((l[k]).to') ((l[k]).key)),(r8 ((l[k]).n))]++[(hv (((l[k]).change).kind) (((l[k]).change).who)),(r8 (((l[k]).change).heir))]by rw[bF (by omega),fN,mf];simp[fN,BY,h30,Bh]]
   exact ak [3] rfl s)
 refine nx J10 (CN (ad (PS ?_)));refine FA 8 eI aO ?_;refine LT 1 Y3 (.int .i64 ((l[k]).mask)) ?_ (hc:=by exact OpT.at_mask _ rfl);refine tp (cp (r:=(((r8 ((l[k]).mask)).toNat:Nat):Int)) rfl Y3 Y5 rfl (r8_wrap _)) ?_;refine FA 9 eI aO ?_;refine LT 1 Y3 (.int .i64 ((l[k]).torn)) ?_ (hc:=by exact OpT.at_torn _ rfl);refine tp (bv (r:=(IntKind.i64.wrap ((l[k]).torn+1))) rfl rfl rfl rfl) ?_;refine tp (cp (r:=(((r8 (IntKind.i64.wrap ((l[k]).torn+1))).toNat:Nat):Int)) rfl Y3 Y5 rfl (r8_wrap _)) ?_
 refine aL (cells:=#[(.int .u8 ((((r8 ((l[k]).mask)).toNat:Nat):Int))),(.int .u8 ((((r8 (IntKind.i64.wrap ((l[k]).torn+1))).toNat:Nat):Int)))]) (ab rfl) rfl rfl rfl e8 sH rfl rfl rfl (by as_aux_lemma=>kernel_rfl) (λb53=>bO (k:=3) (news:=dw ([(r8 ((l[k]).mask)),(r8 (IntKind.i64.wrap ((l[k]).torn+1)))])) (nn':=(fN (l.take k)++[(hv ((l[k]).kind) ((l[k]).at')),(hv ((l[k]).to') ((l[k]).key)),(r8 ((l[k]).n))]++[(r8 ((l[k]).mask)),(r8 (IntKind.i64.wrap ((l[k]).torn+1)))]:List UInt8).length) (xs':=dw (fN (l.take k)++[(hv ((l[k]).kind) ((l[k]).at')),(hv ((l[k]).to') ((l[k]).key)),(r8 ((l[k]).n))]++[(r8 ((l[k]).mask)),(r8 (IntKind.i64.wrap ((l[k]).torn+1)))])) (ab rfl) rfl rfl rfl e8 sH rfl rfl rfl rfl rfl rfl (λ_ _=>fB rfl (RO 0) rfl) (eB [(r8 ((l[k]).mask)),(r8 (IntKind.i64.wrap ((l[k]).torn+1)))]) (by simp only[maxLen,aw,az,ag];omega) (by first|omega| (simp only[aw,az,ag];omega)) (by simp) (fL _ _).symm (λv54 ov54=>PS ?_));refine ap (af (ac J7 (ad (AD ?_))));refine PS ?_;refine ap ?_
 exact aJ ((k+1,v54):(Nat)×(Value)) ⟨by omega,ov54⟩ (by show l.length- (k+1)<l.length-k;omega)
  SB
  (λ_ s=>by
   show bK [cu v54 (fN (l.take (k+1))) 5] _;rw[show fN (l.take (k+1))=fN (l.take k)++[(hv ((l[k]).kind) ((l[k]).at')),(hv ((l[k]).to') ((l[k]).key)),(r8 ((l[k]).n))]++[(r8 ((l[k]).mask)),(r8 (IntKind.i64.wrap ((l[k]).torn+1)))]by rw[bF (by omega),fN,mf];simp[fN,BY,h30,Bh]]
   exact ak [3] rfl s)
 refine nx J5 (aa λ_ J11=>CN (aV (ay (ay (bh (ac J3 (sr λ_ J12=>P2 ?_)))))));refine nx J12 (ah (WK [0] (av rfl rfl ?_)));have e:l.take k=l:=aC (by omega);exact⟨u,rfl,by show [cu u (fN (l.take k)) 5]=_;rw[e]⟩
theorem IF(b:UInt8):qc .u8 (((b.toNat:Nat):Nat):Int) 15=(((b.toNat%16:Nat):Nat):Int):=Ls ⟨b.toNat,b.toNat_lt⟩
theorem KP(b:UInt8):(((b.toNat:Nat):Nat):Int).fdiv (2^min (4:Int).toNat IntKind.u8.bits)=(((b.toNat / 16:Nat):Nat):Int):=L5 ⟨b.toNat,b.toNat_lt⟩
theorem wu(b:UInt8):IntKind.i64.wrap (((b.toNat%16:Nat):Nat):Int)=jW b:=by unfold jW;exact bG (by omega) (by omega)
theorem wC(b:UInt8):IntKind.i64.wrap (((b.toNat / 16:Nat):Nat):Int)=kd b:=by unfold kd;have:=b.toNat_lt;exact bG (by omega) (by omega)
theorem uO(b:UInt8):IntKind.i64.wrap (((b.toNat:Nat):Nat):Int)=n8 b:=by unfold n8;have:=b.toNat_lt;exact bG (by omega) (by omega)
theorem wP{v:Value}{k:Nat}(h:v.oneCell'=true):(uB v k).oneCell'=true:=by
 unfold uB;split
 · rfl
 · exact h
theorem wh(x:Value)(bs:List UInt8)(hl:bs.length≤1000000):
 DT 22 #[x] (IsB x bs) [] (c9 (λr' H=>∃u,r'=u∧H=[own u ((xw bs).length) (ints (List.flatMap OpT.flat (xw bs))) 63 11])):=by
 refine BD 76 Tryz.func22 rfl rfl rfl λw0 F hF=>sr λ_ J1=>PS ?_
 refine nx J1 (sr λ_ J2=>PS ?_);refine nx J2 (aa λ_ J3=>am ?_)
 refine bu (α:=(List UInt8)×(Value)×(List OpT)×(Value)) (λ⟨r,xv,done,u⟩=>IsB xv r F∧r.length≤1000000∧done.length+r.length / 5≤1000000∧xw bs=done++xw r∧xv.oneCell'=true∧u.oneCell'=true) (λ⟨r,xv,done,u⟩=>[(0,xv),(2,(.slice none 0 0)),(3,u)]) (λ⟨r,xv,done,u⟩=>[own u (done.length) (ints (List.flatMap OpT.flat done)) 63 11]) (λ⟨r,xv,done,u⟩=>r.length) (bs,x,[],(.slice none 0 0))
  ⟨hF,hl,by simp;omega,rfl,hF.one,rfl⟩ SB
  (λ_ s=>fq 63 11 s) (λ⟨r,xv,done,u⟩ hinv=>?_)
 obtain⟨hB,hr,hd,ho,hx,hu⟩:=hinv;have hU:IsW xv r F:=IS hB;have hUl:=hB.len;refine aa λ_ J4=>sr λ_ J5=>PS ?_
 refine tp (c8 rfl e8 rfl hUl) ?_;refine PS ?_;refine ao ?_ ?_<;>intro h7;obtain⟨b_b,off_b,cap_b,cs_b,T_b,z_b,hv_b,hb_b,hcs_b,hcp_b⟩:=IsW.at hU (j:=0) (by omega);have hlt_b:=IsW.lt hU;refine nx J5 (CY (qx J4 (aa λ_ J6=>am (aa λ_ J7=>D0 bf ?_))));refine PD 0 ?_;refine ta 1 rfl (bg (r:=off_b) hv_b rfl e8 js rfl rfl (by omega) (by omega) (by omega)) ?_;refine ta 2 rfl (bZ (v:=(.int .u8 (((((r).getD 0 0).toNat:Nat):Int)))) rfl Y5 rfl rfl (iV hb_b (λ_ h=>h.1)) (hcs_b 0 (by omega))) ?_;refine ta 3 rfl (iD (r:=((((r.getD 0 0).toNat%16:Nat):Nat):Int)) rfl rfl rfl (IF _)) ?_;refine ta 4 rfl (cp (r:=(jW (r.getD 0 0))) rfl Y5 Y3 rfl (wu _)) ?_;refine PD 5 ?_;refine ta 6 rfl (bg (r:=off_b) hv_b rfl e8 js rfl rfl (by omega) (by omega) (by omega)) ?_;refine ta 7 rfl (bZ (v:=(.int .u8 (((((r).getD 0 0).toNat:Nat):Int)))) rfl Y5 rfl rfl (iV hb_b (λ_ h=>h.1)) (hcs_b 0 (by omega))) ?_;refine ta 8 rfl (gM (r:=((((r.getD 0 0).toNat / 16:Nat):Nat):Int)) rfl rfl rfl (by omega) (KP _)) ?_;refine ta 9 rfl (cp (r:=(kd (r.getD 0 0))) rfl Y5 Y3 rfl (wC _)) ?_;refine PD 10 ?_;refine ta 11 rfl (bg (r:=off_b+1) hv_b rfl e8 js rfl rfl (by omega) (by omega) (by omega)) ?_;refine ta 12 rfl (bZ (v:=(.int .u8 (((((r).getD 1 0).toNat:Nat):Int)))) rfl Y5 rfl rfl (iV hb_b (λ_ h=>h.1)) (hcs_b 1 (by omega))) ?_;refine ta 13 rfl (iD (r:=((((r.getD 1 0).toNat%16:Nat):Nat):Int)) rfl rfl rfl (IF _)) ?_
 refine ta 14 rfl (cp (r:=(jW (r.getD 1 0))) rfl Y5 Y3 rfl (wu _)) ?_;refine PD 15 ?_;refine ta 16 rfl (bg (r:=off_b+1) hv_b rfl e8 js rfl rfl (by omega) (by omega) (by omega)) ?_;refine ta 17 rfl (bZ (v:=(.int .u8 (((((r).getD 1 0).toNat:Nat):Int)))) rfl Y5 rfl rfl (iV hb_b (λ_ h=>h.1)) (hcs_b 1 (by omega))) ?_;refine ta 18 rfl (gM (r:=((((r.getD 1 0).toNat / 16:Nat):Nat):Int)) rfl rfl rfl (by omega) (KP _)) ?_;refine ta 19 rfl (cp (r:=(kd (r.getD 1 0))) rfl Y5 Y3 rfl (wC _)) ?_;refine PD 20 ?_;refine ta 21 rfl (bg (r:=off_b+2) hv_b rfl e8 js rfl rfl (by omega) (by omega) (by omega)) ?_;refine ta 22 rfl (bZ (v:=(.int .u8 (((((r).getD 2 0).toNat:Nat):Int)))) rfl Y5 rfl rfl (iV hb_b (λ_ h=>h.1)) (hcs_b 2 (by omega))) ?_;refine ta 23 rfl (cp (r:=(n8 (r.getD 2 0))) rfl Y5 Y3 rfl (uO _)) ?_;refine ta 24 rfl (ke OpT.zero (OpT.mk (jW (r.getD 0 0)) (kd (r.getD 0 0)) (jW (r.getD 1 0)) (kd (r.getD 1 0)) (n8 (r.getD 2 0)) ChangeT.zero 0 0 0) [(0,[Value.int .i64 (jW (r.getD 0 0))]),(1,[Value.int .i64 (kd (r.getD 0 0))]),(2,[Value.int .i64 (jW (r.getD 1 0))]),(3,[Value.int .i64 (kd (r.getD 1 0))]),(4,[Value.int .i64 (n8 (r.getD 2 0))])] eI il (g:=OpT.sg)) ?_;refine AL 25 ?_;refine XZ NO (ints OpT.zero.flat) λb4=>?_
 refine EN (AL 26 ?_);refine SW 0 qG gq ?_;refine EN (DN (ac J7 (aa λ_ J8=>sr λ_ J9=>FA 0 eI aO ?_)));refine LT 0 Y3 (.int .i64 ((jW (r.getD 0 0)))) ?_ (hc:=by exact cB _ rfl);refine nx J9 (am (sr λ_ J10=>PS ?_));refine ao ?_ ?_<;>intro h38;refine PS ?_;refine nx J10 (CY (D0 bf ?_));refine PD 0 ?_;refine ta 1 rfl (bg (r:=off_b+3) hv_b rfl e8 js rfl rfl (by omega) (by omega) (by omega)) ?_;refine ta 2 rfl (bZ (v:=(.int .u8 (((((r).getD 3 0).toNat:Nat):Int)))) rfl Y5 rfl rfl (iV hb_b (λ_ h=>h.1)) (hcs_b 3 (by omega))) ?_;refine ta 3 rfl (iD (r:=((((r.getD 3 0).toNat%16:Nat):Nat):Int)) rfl rfl rfl (IF _)) ?_;refine ta 4 rfl (cp (r:=(jW (r.getD 3 0))) rfl Y5 Y3 rfl (wu _)) ?_;refine PD 5 ?_;refine ta 6 rfl (bg (r:=off_b+3) hv_b rfl e8 js rfl rfl (by omega) (by omega) (by omega)) ?_;refine ta 7 rfl (bZ (v:=(.int .u8 (((((r).getD 3 0).toNat:Nat):Int)))) rfl Y5 rfl rfl (iV hb_b (λ_ h=>h.1)) (hcs_b 3 (by omega))) ?_;refine ta 8 rfl (gM (r:=((((r.getD 3 0).toNat / 16:Nat):Nat):Int)) rfl rfl rfl (by omega) (KP _)) ?_;refine ta 9 rfl (cp (r:=(kd (r.getD 3 0))) rfl Y5 Y3 rfl (wC _)) ?_;refine PD 10 ?_;refine ta 11 rfl (bg (r:=off_b+4) hv_b rfl e8 js rfl rfl (by omega) (by omega) (by omega)) ?_;refine ta 12 rfl (bZ (v:=(.int .u8 (((((r).getD 4 0).toNat:Nat):Int)))) rfl Y5 rfl rfl (iV hb_b (λ_ h=>h.1)) (hcs_b 4 (by omega))) ?_;refine ta 13 rfl (cp (r:=(n8 (r.getD 4 0))) rfl Y5 Y3 rfl (uO _)) ?_
 refine ta 14 rfl (ke ChangeT.zero (ChangeT.mk (jW (r.getD 3 0)) (kd (r.getD 3 0)) (n8 (r.getD 4 0))) [(0,[Value.int .i64 (jW (r.getD 3 0))]),(1,[Value.int .i64 (kd (r.getD 3 0))]),(2,[Value.int .i64 (n8 (r.getD 4 0))])] lW GY (g:=ChangeT.sg)) ?_;refine FD 15 5 eI eZ ?_;refine AL 16 ?_;refine SP 0 eZ aI gq OpT.wp_change ?_;refine EN (DN (af (ac J8 (ad ?_))));have hop:(OpT.mk (jW (r.getD 0 0)) (kd (r.getD 0 0)) (jW (r.getD 1 0)) (kd (r.getD 1 0)) (n8 (r.getD 2 0)) (ChangeT.mk (jW (r.getD 3 0)) (kd (r.getD 3 0)) (n8 (r.getD 4 0))) 0 0 0)=iT (r.getD 0 0) (r.getD 1 0) (r.getD 2 0) (r.getD 3 0) (r.getD 4 0):=by first| (rw[iT,if_pos h38];try rfl)| (rw[iT,if_neg h38,if_pos h56];try rfl)| (rw[iT,if_neg h38,if_neg h56];try rfl)
 refine PS ?_;refine LW 0 eI qG gq ?_;refine aL (cells:=(ints (OpT.mk (jW (r.getD 0 0)) (kd (r.getD 0 0)) (jW (r.getD 1 0)) (kd (r.getD 1 0)) (n8 (r.getD 2 0)) (ChangeT.mk (jW (r.getD 3 0)) (kd (r.getD 3 0)) (n8 (r.getD 4 0))) 0 0 0).flat).toArray) (ab rfl) rfl rfl rfl IK DJ rfl rfl rfl (je (gq (OpT.mk (jW (r.getD 0 0)) (kd (r.getD 0 0)) (jW (r.getD 1 0)) (kd (r.getD 1 0)) (n8 (r.getD 2 0)) (ChangeT.mk (jW (r.getD 3 0)) (kd (r.getD 3 0)) (n8 (r.getD 4 0))) 0 0 0)) (by simp)) (λb73=>?_);change TL _ _ _ _ _ _ _ _ _ [aj b73 (ints (OpT.mk (jW (r.getD 0 0)) (kd (r.getD 0 0)) (jW (r.getD 1 0)) (kd (r.getD 1 0)) (n8 (r.getD 2 0)) (ChangeT.mk (jW (r.getD 3 0)) (kd (r.getD 3 0)) (n8 (r.getD 4 0))) 0 0 0).flat) 63,aj b4 (ints (OpT.mk (jW (r.getD 0 0)) (kd (r.getD 0 0)) (jW (r.getD 1 0)) (kd (r.getD 1 0)) (n8 (r.getD 2 0)) (ChangeT.mk (jW (r.getD 3 0)) (kd (r.getD 3 0)) (n8 (r.getD 4 0))) 0 0 0).flat) 63,own u (done.length) (ints (List.flatMap OpT.flat done)) 63 11]
 refine bO (k:=2) (news:=ints (OpT.mk (jW (r.getD 0 0)) (kd (r.getD 0 0)) (jW (r.getD 1 0)) (kd (r.getD 1 0)) (n8 (r.getD 2 0)) (ChangeT.mk (jW (r.getD 3 0)) (kd (r.getD 3 0)) (n8 (r.getD 4 0))) 0 0 0).flat) (nn':=(done++[iT (r.getD 0 0) (r.getD 1 0) (r.getD 2 0) (r.getD 3 0) (r.getD 4 0)]).length) (xs':=ints (List.flatMap OpT.flat (done++[iT (r.getD 0 0) (r.getD 1 0) (r.getD 2 0) (r.getD 3 0) (r.getD 4 0)]))) (ab rfl) rfl rfl rfl IK DJ rfl rfl rfl rfl rfl rfl (λ_ _=>fB (gq _) (RO 0) (by rw[bb,eV])) (bm _) (by simp only[maxLen];omega) (by omega) (by simp) (by rw[←hop];simp[ints]) (λv74 ov74=>PS ?_);refine ap (af (ac J6 (ad (PS ?_))));refine tp (kB (xR (k:=5) rfl e8 js (by rw[←hv_b];rfl) rfl (by omega) (by omega) rfl) (congrArg (λq=>uB q 5) hv_b.symm)) ?_;refine PS ?_;refine ap ?_
 exact aJ (((r.drop 5),(uB xv 5),(done++[iT (r.getD 0 0) (r.getD 1 0) (r.getD 2 0) (r.getD 3 0) (r.getD 4 0)]),v74):(List UInt8)×(Value)×(List OpT)×(Value)) ⟨hB.cut 5 (by omega),by rw[bN];omega,by rw[ag,bN];simp;omega,by rw[ho,s8 (by omega)];simp,wP hx,ov74⟩ (by show(r.drop 5).length<r.length;rw[bN];omega)
  SB
  (λ_ s=>ak [2] rfl s)
 refine PS ?_;refine nx J10 (CN (sr λ_ J11=>PS ?_));refine ao ?_ ?_<;>intro h56;refine PS ?_;refine nx J11 (CY (D0 bf ?_));refine PD 0 ?_;refine ta 1 rfl (bg (r:=off_b+3) hv_b rfl e8 js rfl rfl (by omega) (by omega) (by omega)) ?_;refine ta 2 rfl (bZ (v:=(.int .u8 (((((r).getD 3 0).toNat:Nat):Int)))) rfl Y5 rfl rfl (iV hb_b (λ_ h=>h.1)) (hcs_b 3 (by omega))) ?_;refine ta 3 rfl (cp (r:=(n8 (r.getD 3 0))) rfl Y5 Y3 rfl (uO _)) ?_;refine PD 4 ?_;refine ta 5 rfl (bg (r:=off_b+4) hv_b rfl e8 js rfl rfl (by omega) (by omega) (by omega)) ?_;refine ta 6 rfl (bZ (v:=(.int .u8 (((((r).getD 4 0).toNat:Nat):Int)))) rfl Y5 rfl rfl (iV hb_b (λ_ h=>h.1)) (hcs_b 4 (by omega))) ?_;refine ta 7 rfl (cp (r:=(n8 (r.getD 4 0))) rfl Y5 Y3 rfl (uO _)) ?_;refine ta 8 rfl (ik (r:=(n8 (r.getD 4 0)-1)) rfl rfl rfl (bG (by have:=Kw (r.getD 4 0);omega) (by have:=Kw (r.getD 4 0);omega))) ?_;refine FD 9 4 eI aO ?_;refine AL 10 ?_;refine LT 0 Y3 (.int .i64 ((n8 (r.getD 2 0)))) ?_ (hc:=by exact pS _ rfl);refine EN (FD 11 8 eI aO ?_);refine AL 12 ?_;refine SS 0 aO (gq _) (OpT.set_mask _ rfl _) ?_;refine EN (FD 13 9 eI aO ?_);refine AL 14 ?_;refine SS 0 aO (gq _) (OpT.set_torn _ rfl _) ?_;refine EN (FD 15 10 eI aO ?_);refine AL 16 ?_;refine SS 0 aO (gq _) (OpT.set_cut _ rfl _) ?_;refine EN (DN (af (ac J8 (ad ?_))))
 have hop:(OpT.mk (jW (r.getD 0 0)) (kd (r.getD 0 0)) (jW (r.getD 1 0)) (kd (r.getD 1 0)) (n8 (r.getD 2 0)) ChangeT.zero (n8 (r.getD 3 0)) (n8 (r.getD 4 0)-1) (n8 (r.getD 2 0)))=iT (r.getD 0 0) (r.getD 1 0) (r.getD 2 0) (r.getD 3 0) (r.getD 4 0):=by first| (rw[iT,if_pos h38];try rfl)| (rw[iT,if_neg h38,if_pos h56];try rfl)| (rw[iT,if_neg h38,if_neg h56];try rfl)
 refine PS ?_;refine LW 0 eI qG gq ?_;refine aL (cells:=(ints (OpT.mk (jW (r.getD 0 0)) (kd (r.getD 0 0)) (jW (r.getD 1 0)) (kd (r.getD 1 0)) (n8 (r.getD 2 0)) ChangeT.zero (n8 (r.getD 3 0)) (n8 (r.getD 4 0)-1) (n8 (r.getD 2 0))).flat).toArray) (ab rfl) rfl rfl rfl IK DJ rfl rfl rfl (je (gq (OpT.mk (jW (r.getD 0 0)) (kd (r.getD 0 0)) (jW (r.getD 1 0)) (kd (r.getD 1 0)) (n8 (r.getD 2 0)) ChangeT.zero (n8 (r.getD 3 0)) (n8 (r.getD 4 0)-1) (n8 (r.getD 2 0)))) (by simp)) (λb73=>?_);change TL _ _ _ _ _ _ _ _ _ [aj b73 (ints (OpT.mk (jW (r.getD 0 0)) (kd (r.getD 0 0)) (jW (r.getD 1 0)) (kd (r.getD 1 0)) (n8 (r.getD 2 0)) ChangeT.zero (n8 (r.getD 3 0)) (n8 (r.getD 4 0)-1) (n8 (r.getD 2 0))).flat) 63,aj b4 (ints (OpT.mk (jW (r.getD 0 0)) (kd (r.getD 0 0)) (jW (r.getD 1 0)) (kd (r.getD 1 0)) (n8 (r.getD 2 0)) ChangeT.zero (n8 (r.getD 3 0)) (n8 (r.getD 4 0)-1) (n8 (r.getD 2 0))).flat) 63,own u (done.length) (ints (List.flatMap OpT.flat done)) 63 11]
 refine bO (k:=2) (news:=ints (OpT.mk (jW (r.getD 0 0)) (kd (r.getD 0 0)) (jW (r.getD 1 0)) (kd (r.getD 1 0)) (n8 (r.getD 2 0)) ChangeT.zero (n8 (r.getD 3 0)) (n8 (r.getD 4 0)-1) (n8 (r.getD 2 0))).flat) (nn':=(done++[iT (r.getD 0 0) (r.getD 1 0) (r.getD 2 0) (r.getD 3 0) (r.getD 4 0)]).length) (xs':=ints (List.flatMap OpT.flat (done++[iT (r.getD 0 0) (r.getD 1 0) (r.getD 2 0) (r.getD 3 0) (r.getD 4 0)]))) (ab rfl) rfl rfl rfl IK DJ rfl rfl rfl rfl rfl rfl (λ_ _=>fB (gq _) (RO 0) (by rw[bb,eV])) (bm _) (by simp only[maxLen];omega) (by omega) (by simp) (by rw[←hop];simp[ints]) (λv74 ov74=>PS ?_);refine ap (af (ac J6 (ad (PS ?_))));refine tp (kB (xR (k:=5) rfl e8 js (by rw[←hv_b];rfl) rfl (by omega) (by omega) rfl) (congrArg (λq=>uB q 5) hv_b.symm)) ?_;refine PS ?_;refine ap ?_
 exact aJ (((r.drop 5),(uB xv 5),(done++[iT (r.getD 0 0) (r.getD 1 0) (r.getD 2 0) (r.getD 3 0) (r.getD 4 0)]),v74):(List UInt8)×(Value)×(List OpT)×(Value)) ⟨hB.cut 5 (by omega),by rw[bN];omega,by rw[ag,bN];simp;omega,by rw[ho,s8 (by omega)];simp,wP hx,ov74⟩ (by show(r.drop 5).length<r.length;rw[bN];omega)
  SB
  (λ_ s=>ak [2] rfl s)
 refine PS ?_;refine nx J11 (CN (aM (af (ac J8 (ad ?_)))));have hop:(OpT.mk (jW (r.getD 0 0)) (kd (r.getD 0 0)) (jW (r.getD 1 0)) (kd (r.getD 1 0)) (n8 (r.getD 2 0)) ChangeT.zero 0 0 0)=iT (r.getD 0 0) (r.getD 1 0) (r.getD 2 0) (r.getD 3 0) (r.getD 4 0):=by first| (rw[iT,if_pos h38];try rfl)| (rw[iT,if_neg h38,if_pos h56];try rfl)| (rw[iT,if_neg h38,if_neg h56];try rfl)
 refine PS ?_;refine LW 0 eI qG gq ?_;refine aL (cells:=(ints (OpT.mk (jW (r.getD 0 0)) (kd (r.getD 0 0)) (jW (r.getD 1 0)) (kd (r.getD 1 0)) (n8 (r.getD 2 0)) ChangeT.zero 0 0 0).flat).toArray) (ab rfl) rfl rfl rfl IK DJ rfl rfl rfl (je (gq (OpT.mk (jW (r.getD 0 0)) (kd (r.getD 0 0)) (jW (r.getD 1 0)) (kd (r.getD 1 0)) (n8 (r.getD 2 0)) ChangeT.zero 0 0 0)) (by simp)) (λb73=>?_);change TL _ _ _ _ _ _ _ _ _ [aj b73 (ints (OpT.mk (jW (r.getD 0 0)) (kd (r.getD 0 0)) (jW (r.getD 1 0)) (kd (r.getD 1 0)) (n8 (r.getD 2 0)) ChangeT.zero 0 0 0).flat) 63,aj b4 (ints (OpT.mk (jW (r.getD 0 0)) (kd (r.getD 0 0)) (jW (r.getD 1 0)) (kd (r.getD 1 0)) (n8 (r.getD 2 0)) ChangeT.zero 0 0 0).flat) 63,own u (done.length) (ints (List.flatMap OpT.flat done)) 63 11];refine bO (k:=2) (news:=ints (OpT.mk (jW (r.getD 0 0)) (kd (r.getD 0 0)) (jW (r.getD 1 0)) (kd (r.getD 1 0)) (n8 (r.getD 2 0)) ChangeT.zero 0 0 0).flat) (nn':=(done++[iT (r.getD 0 0) (r.getD 1 0) (r.getD 2 0) (r.getD 3 0) (r.getD 4 0)]).length) (xs':=ints (List.flatMap OpT.flat (done++[iT (r.getD 0 0) (r.getD 1 0) (r.getD 2 0) (r.getD 3 0) (r.getD 4 0)]))) (ab rfl) rfl rfl rfl IK DJ rfl rfl rfl rfl rfl rfl (λ_ _=>fB (gq _) (RO 0) (by rw[bb,eV])) (bm _) (by simp only[maxLen];omega) (by omega) (by simp) (by rw[←hop];simp[ints]) (λv74 ov74=>PS ?_);refine ap (af (ac J6 (ad (PS ?_))))
 refine tp (kB (xR (k:=5) rfl e8 js (by rw[←hv_b];rfl) rfl (by omega) (by omega) rfl) (congrArg (λq=>uB q 5) hv_b.symm)) ?_;refine PS ?_;refine ap ?_
 exact aJ (((r.drop 5),(uB xv 5),(done++[iT (r.getD 0 0) (r.getD 1 0) (r.getD 2 0) (r.getD 3 0) (r.getD 4 0)]),v74):(List UInt8)×(Value)×(List OpT)×(Value)) ⟨hB.cut 5 (by omega),by rw[bN];omega,by rw[ag,bN];simp;omega,by rw[ho,s8 (by omega)];simp,wP hx,ov74⟩ (by show(r.drop 5).length<r.length;rw[bN];omega)
  SB
  (λ_ s=>ak [2] rfl s)
 refine nx J5 (CN (aV (ay (ay (bh (ac J3 (sr λ_ J12=>P2 ?_)))))));refine nx J12 (ah (WK [0] (av rfl rfl ?_)));obtain rfl:xw bs=done:=by rw[ho,Ga (by omega),a8]
 exact⟨u,rfl,rfl⟩
def Bo:OpT:=⟨0,0,0,0,5, .zero,0,0,0⟩
theorem HI:OkOp Bo:=⟨Ed,by decide⟩
def O1:List UInt8:=[109,97,99,104,105,110,101,32,48,32,117,112,32,49,32,49,32,48,32,49,32,50,10,109]
def aS:CL:=(uA .new Bo).1
theorem Np:CLOk 1 aS:=B3 new_ok HI
def Ha(v:ViewT):Bool:=decide (v.epoch=1)&&decide (v.members=7)&&decide (v.heirs.toList=[0,0,0,0,0])
theorem G9{v:ViewT}(h:Ha v=true):v=firstV:=by
 obtain⟨e,m,hs⟩:=v;unfold Ha at h;rw[au,au]at h;obtain⟨⟨h1,h2⟩,h3⟩:=h;have e1:e=1:=of_decide_eq_true h1;have e2:m=7:=of_decide_eq_true h2;have e3:hs= #v[0,0,0,0,0]:=Vector.toList_inj.1 (of_decide_eq_true h3);rw[e1,e2,e3];rfl
def E6(a:CL)(j:Nat):Bool:=(a.at' j).up&&Ha (mr a j).view&&decide (0≤(mr a j).own.version)&&decide ((mr a j).own.version<10)&&(a.at' j).reps.isEmpty&&(List.range 5).all λi=>(cJ (mr a j).mirror ((i:Nat):Int)).flat.all (λx=>decide (-9≤x∧x≤9))&&decide ((cJ (mr a j).mirror ((i:Nat):Int)).version=0)
def L3:Bool:=((List.range 5).all λj=>E6 aS j)&&decide ((k9 aS 4).take 24=O1)
theorem Jc:L3=true:=by decide+kernel
theorem IG{p:Nat→Bool}{n:Nat}(h:(List.range n).all p=true)(i:Nat)(hi:i<n):p i=true:=List.all_eq_true.1 h i (dO.2 hi)
structure Calm(a:CL):Prop where
 up:oK a
 view: ∀j,j<5→(mr a j).view=firstV
 ver: ∀i,i<5→0≤(mr a i).own.version∧(mr a i).own.version<10
 rs: ∀i,i<5→(a.at' i).reps=[]
 wf: ∀j i,j<5→i<5→WF (cJ (mr a j).mirror ((i:Nat):Int)).flat
 zero: ∀j i,j<5→i<5→(cJ (mr a j).mirror ((i:Nat):Int)).version=0
theorem JQ{a:CL}(h:((List.range 5).all λj=>E6 a j)=true):Calm a:=by
 have g: ∀j,j<5→E6 a j=true:=λj hj=>IG h j hj
 have g2: ∀j,j<5→_:=λj hj=>by
  have:=g j hj;unfold E6 at this;rw[au,au,au,au,au]at this;exact this
 have g3: ∀j i,j<5→i<5→_:=λj i hj hi=>by
  have:=IG (g2 j hj).2 i hi;rw[au]at this;exact this
 exact⟨λj hj=>(g2 j hj).1.1.1.1.1,λj hj=>G9 (g2 j hj).1.1.1.1.2,λi hi=>⟨of_decide_eq_true (g2 i hi).1.1.1.2,of_decide_eq_true (g2 i hi).1.1.2⟩,λi hi=>List.isEmpty_iff.1 (g2 i hi).1.2,
  λj i hj hi n hn=>by
   have:=of_decide_eq_true (List.all_eq_true.1 (g3 j i hj hi).1 n hn)
   exact ox ⟨by omega,by omega⟩,λj i hj hi=>of_decide_eq_true (g3 j i hj hi).2⟩
theorem Dw{y:RowT}{i:Nat}(hi:i<5)(h:y.version=0):(eH BookT.zero ((i:Nat):Int) y).1=BookT.zero:=by
 have e:(cv BookT.zero ((i:Nat):Int)).version=0:=by
  match i,hi with
  |0,_|1,_|2,_|3,_|4,_=>rfl
 unfold eH;rw[e,h,show decide ((0:Int)>0)=false from rfl,jI];rfl
theorem Calm.to'{a:CL}(h:Calm a){j:Nat}(hj:j<5): ∀k,k≤5→kV (mr a j) BookT.zero k=BookT.zero
 |0,_=>rfl
 |k+1,hk=>by
  rw[tR,h.to' hj k (by omega)];exact Dw (by omega) (h.zero j k hj (by omega))
theorem Calm.truth'{a:CL}(h:Calm a): ∀k,k≤5→iv a k=BookT.zero
 |0,_=>rfl
 |k+1,hk=>by
  rw[tA h.up (by omega),h.truth' k (by omega)];exact h.to' (by omega) 5 (aQ _)
theorem Hn:Calm aS∧(k9 aS 4).take 24=O1:=by
 have h:=Jc;unfold L3 at h;rw[au]at h;exact⟨JQ h.1,of_decide_eq_true h.2⟩
theorem Jp:xw (fN [Bo])=[Bo]:=by show _=_;kernel_rfl
theorem Hq{H:List HP}{g cap nn e size:Nat}{cur xs:List Value}(i:Nat)(hi:Nat.blt i H.length=true)(hH:H.getD i (λ_=>True)=aj g cur e)(h1:nn≤cap)(h2:cap≤maxLen)(h3:cur.length=cap*size)(h4:cur.take (nn*size)=xs)(h5:xs.length=nn*size){h:Hl}(s:bK H h):
 bK (H.set i (own (.slice (some ⟨g,0,none⟩) nn cap) nn xs e size)) h:=by
 obtain⟨x,y,d,rfl,a,b⟩:=dV i (lb hi) s;rw[hH]at a;refine jL i (lb hi) ⟨x,y,d,rfl,?_,b⟩;exact⟨h5, .inr ⟨g,cap,cur.toArray,rfl,a,h1,h2,by simp[h3],by simpa using h4⟩⟩
theorem FM(c:Nat)(u:Value):
 DT 21 #[(.pointer (some ⟨c,0,none⟩)),u] T0 [own u (([Bo]:List OpT).length) (ints (List.flatMap OpT.flat ([Bo]:List OpT))) 63 11,fh c CL.new] (c9 (λr' H=>∃n,r'= .int .i64 n∧H=[own u (([Bo]:List OpT).length) (ints (List.flatMap OpT.flat ([Bo]:List OpT))) 63 11,fh c aS])):=by
 refine BD 22 Tryz.func21 rfl rfl rfl λw0 F hF=>sr λ_ J1=>PS ?_
 refine nx J1 (sr λ_ J2=>PS ?_);refine nx J2 (aa λ_ J3=>sr λ_ J4=>PS ?_);refine gj 0 rfl rfl (λhlu _=>ij 0 rfl rfl (by decide) (λgu capu hvu hcu=>?_));have hone:([Bo]:List OpT).length=1:=rfl;refine tp (c8 rfl IK rfl hlu) ?_;refine PS ?_;refine nx J4 (am (gK 2 (sr λ_ J5=>PS ?_)));refine nx J5 (aa λ_ J6=>CY (qx J6 (aa λ_ J7=>am (sr λ_ J8=>tp (bg (r:=0) hvu rfl IK qG rfl rfl (by omega) (by omega) rfl) ?_))));refine tp (Cx (vs:=ints (OpT.mk 0 0 0 0 5 ChangeT.zero 0 0 0).flat) rfl eI rfl qG rfl (fI 0 rfl hvu rfl) rfl rfl) ?_;refine XZ NO (ints OpT.zero.flat) λb7=>?_
 refine SW 0 qG gq ?_;refine nx J8 (sr λ_ J9=>PS ?_);refine LW 0 eI qG gq ?_;refine CE HQ (pG (c:=c) (o:=Bo) new_ok (by decide) HI) (SM [2]) ?_;refine PS ?_;refine ao ?_ ?_<;>intro h17;refine nx J9 (CY (ad (PS ?_)));refine tp (bv (r:=1) rfl rfl rfl (by decide)) ?_;refine PS ?_;refine ap (af (ac J7 (ad (tp (bv (r:=1) rfl rfl rfl (by decide)) ?_))));refine PS ?_;refine ap (bH (sr λ_ J10=>PS ?_));refine nx J10 (aa λ_ J11=>CN (aV (ay (ay (bh (ac J3 (sr λ_ J12=>P2 ?_)))))));exact nx J12 (ah (WK [2,0] (av rfl rfl ⟨_,rfl,rfl⟩)));refine nx J9 (CN (aM (af (ac J7 (ad (tp (bv (r:=1) rfl rfl rfl (by decide)) ?_))))));refine PS ?_;refine ap (bH (sr λ_ J13=>PS ?_));refine nx J13 (aa λ_ J14=>CN (aV (ay (ay (bh (ac J3 (sr λ_ J15=>P2 ?_)))))));exact nx J15 (ah (WK [2,0] (av rfl rfl ⟨_,rfl,rfl⟩)))
theorem vh(c:Nat):DT 19 #[.pointer (some ⟨c,0,none⟩)] T0 [fh c aS] (RI (jS (k9 aS 4)) [fh c aS]):=
 have h:=Hn.1
 Leg.Does.ex (A':=λg=>[dB c aS g]) (λh s=>Is s) λg=>Leg.Does.fold (xj c aS g h.up h.view h.wf (h.truth' 5 (aQ _)) h.ver h.rs 1 Np (by decide)) λe H hp=>by
  cases e with
  |returned v=>obtain⟨rfl,rfl⟩:=hp;exact⟨_,λ_ s=>GI s,rfl,rfl⟩
  |panicked c=>exact hp.elim
  |outgrown=>exact hp.elim
theorem ze(x:Value):
 DT 23 #[x] (IsB x (fN [Bo])) [] (RI (jS (k9 aS 4)) []):=by
 refine BD 11 Tryz.func23 rfl rfl rfl λw0 F hF=>sr λ_ J1=>PS ?_
 refine nx J1 (sr λ_ J2=>CR Mz (yA) ID λvR HR hR=>?_);obtain⟨c,rfl,rfl⟩:=hR;refine PS ?_;refine nx J2 (sr λ_ J3=>P2 ?_);refine CQ Oy (wh x (fN [Bo]) (by decide)) ID (λ_ d _=>IsB.more hF d) λvR HR hR=>?_
 obtain⟨_,rfl,hH⟩:=hR;revert vR;intro u hH;rw[Jp]at hH;subst hH;refine CR Oz (FM c u) ID λvR HR hR=>?_
 obtain⟨n,rfl,rfl⟩:=hR;refine nx J3 (sr λ_ J4=>PS ?_);refine CE OA (vh c) (SM [1]) ?_;refine PS ?_;exact nx J4 (ah (WK [] (av rfl rfl ⟨rfl,rfl⟩)))
theorem C4:
 DT 24 #[] T0 [] (RI (.bool true) []):=by
 refine BD 14 Tryz.func24 rfl rfl rfl λw0 F hF=>?_
 obtain⟨_,hpre⟩:=Hn;refine sr λ_ J1=>PS ?_
 refine nx J1 (sr λ_ J2=>tp (ke OpT.zero (OpT.mk 0 0 0 0 5 ChangeT.zero 0 0 0) [(0,[Value.int .i64 0]),(4,[Value.int .i64 5])] eI il (g:=OpT.sg)) ?_);refine aL (cells:=(ints (OpT.mk 0 0 0 0 5 ChangeT.zero 0 0 0).flat).toArray) (ab rfl) rfl rfl rfl IK DJ rfl rfl rfl (je (gq (OpT.mk 0 0 0 0 5 ChangeT.zero 0 0 0)) (by simp)) (λb3=>?_);change TL _ _ _ _ _ _ _ _ _ [aj b3 (ints (OpT.mk 0 0 0 0 5 ChangeT.zero 0 0 0).flat) 63];refine ce (H':=[own (.slice (some ⟨b3,0,none⟩) (1) (1)) (([Bo]:List OpT).length) (ints (List.flatMap OpT.flat ([Bo]:List OpT))) 63 11]) (λ_ s=>Hq (g:=b3) (cap:=1) (nn:=1) (e:=63) (size:=11) (cur:=ints (List.flatMap OpT.flat ([Bo]:List OpT))) (xs:=ints (List.flatMap OpT.flat ([Bo]:List OpT))) 0 rfl rfl (by decide) (by decide) rfl rfl rfl s) (CQ Oh (wg (.slice (some ⟨b3,0,none⟩) (1) (1)) [Bo] (by decide)) ID (JE OpT.flat_length 0 rfl rfl) λvR HR hR=>?_);obtain⟨_,rfl,rfl⟩:=hR;revert vR;intro ue;refine CF Ox (ze ue) ID (si 0 rfl rfl) ?_;refine PS ?_;refine nx J2 (sr λ_ J3=>PS ?_);refine tp (kB (PV.strLen rfl Y9 rfl) (by rw[mh])) ?_;refine P3 ?_;refine tq (PV.strTo (hi:=24) rfl Y9 rfl rfl rfl (by rw[mh];decide)) ?_;refine tq (PV.strEql (a:=(k9 aS 4).take 24) (b:=[109,97,99,104,105,110,101,32,48,32,117,112,32,49,32,49,32,48,32,49,32,50,10,109]) rfl rfl rfl) ?_;refine P2 ?_;exact nx J3 (ah (WK [] (av rfl rfl ⟨congrArg Value.bool (decide_eq_true hpre),rfl⟩)))
end Go.Proofs.YtfocodjhmkokpaaGreatDoor
end

section
namespace Api
open Go Leg Codec Dsk Wal
def Bn:OpT:=⟨0,0,0,0,1, .zero,0,0,0⟩
theorem s9:OkOp Bn:=⟨Ed,by decide⟩
def sz:Nat→CL→CL
 |0,a=>a
 |k+1,a=>sz k (uA a Bn).1
def HK(l:List ReplyT):Nat:=(l.filter λr=>decide (r.err=0)).length
def E8(t:Nat)(a:CL):CL:=jK (sz t (uA a Bn).1) 2
def tu:Nat→CL→Bool
 |0,_=>true
 |k+1,a=>decide ((uA a Bn).2=8)&&tu k (uA a Bn).1
def KA(t n:Nat)(a:CL):Bool:=((List.range 5).all λi=>(a.at' i).up)&&decide (HK (a.at' 0).reps=n)&&decide ((a.at' 0).reps.length=n* (1+t))&&decide (jf (qy a) 0=((n:Nat):Int))&&(match(a.at' 1).run with
 |none=>false
 |some s=>decide (jf s.book 0=((n:Nat):Int)))
def qp(t:Nat):Nat→Nat→CL→Bool
 |0,_,_=>true
 |k+1,n,a=>decide ((uA a Bn).2=0)&&tu t (uA a Bn).1&&KA t (n+1) (E8 t a)&&qp t k (n+1) (E8 t a)
theorem Nn:qp 0 16 0 .new=true:=by decide+kernel
theorem Nl:qp 1 16 0 .new=true:=by decide+kernel
theorem Nk:qp 2 16 0 .new=true:=by decide+kernel
theorem Nj:qp 3 16 0 .new=true:=by decide+kernel
theorem Iw{t:Nat}(h:t≤3):qp t 16 0 .new=true:=by
 match t,h with
 |0,_=>exact Nn
 |1,_=>exact Nl
 |2,_=>exact Nk
 |3,_=>exact Nj
def fm(t:Nat):Nat→CL
 |0=> .new
 |k+1=>E8 t (fm t k)
theorem Ci{t:Nat}: ∀(k m:Nat),qp t (k+m) 0 .new=true→qp t m k (fm t k)=true
 |0,m,h=>by rw[bi]at h;exact h
 |k+1,m,h=>by
  have:=Ci k (m+1) (by rw[←h];congr 1;omega);unfold qp at this;rw[au,au,au]at this;exact this.2
structure BusyE(t n:Nat)(a:CL):Prop where
 up: ∀j,j<5→(a.at' j).up=true
 oks:HK (a.at' 0).reps=n
 len:(a.at' 0).reps.length=n* (1+t)
 truth:jf (qy a) 0=((n:Nat):Int)
 v1: ∀s,(a.at' 1).run=some s→jf s.book 0=((n:Nat):Int)
theorem E7{t k:Nat}(ht:t≤3)(hk:k<16):(uA (fm t k) Bn).2=0∧tu t (uA (fm t k) Bn).1=true∧BusyE t (k+1) (fm t (k+1)):=by
 have:=Ci (t:=t) k (15-k+1) (by rw[show k+(15-k+1)=16 by omega];exact Iw ht);unfold qp at this;rw[au,au,au]at this;obtain⟨⟨⟨h1,h2⟩,h3⟩,_⟩:=this;refine⟨of_decide_eq_true h1,h2,?_⟩;unfold KA at h3;rw[au,au,au,au]at h3;obtain⟨⟨⟨⟨g1,g2⟩,g3⟩,g4⟩,g5⟩:=h3;refine⟨λj hj=>List.all_eq_true.1 g1 j (dO.2 hj),of_decide_eq_true g2,of_decide_eq_true g3,of_decide_eq_true g4,λs hs=>?_⟩;have e:(E8 t (fm t k))=fm t (k+1):=rfl;rw[e,hs]at g5;exact of_decide_eq_true g5
theorem yT: ∀(t j:Nat) (a:CL),j<t→tu t a=true→(uA (sz j a) Bn).2=8
 |t+1,0,a,_,h=>by
  unfold tu at h;rw[au]at h;exact of_decide_eq_true h.1
 |t+1,j+1,a,hj,h=>by
  unfold tu at h;rw[au]at h;exact yT t j _ (by omega) h.2
theorem wT: ∀(j:Nat) (a:CL),sz (j+1) a=(uA (sz j a) Bn).1
 |0,_=>rfl
 |j+1,a=>wT j (uA a Bn).1
theorem sy: ∀(j:Nat) {n:Nat} {a:CL},CLOk n a→CLOk (n+j) (sz j a)
 |0,_,_,h=>h
 |j+1,n,a,h=>by
  have:=sy j (B3 h s9);rw[show n+(j+1)=n+1+j by omega];exact this
theorem Ch(t:Nat): ∀k,CLOk (k* (1+t)) (fm t k)
 |0=>by rw[gr];exact new_ok
 |k+1=>by
  have:=(sy t (B3 (Ch t k) s9)).settle 2;rw[show(k+1)* (1+t)=k* (1+t)+1+t by rw[e9];omega];exact this
theorem nK{t k:Nat}(ht:t≤3)(hk:k≤16):CLOk 64 (fm t k):=(Ch t k).more (by
 have:=Cs hk (show 1+t≤4 by omega)
 omega)
def yx(l:List ReplyT)(j:Nat):Nat:=HK (l.take j)
theorem wi(l:List ReplyT){j:Nat}(h:j<l.length):yx l (j+1)=yx l j+if l[j].err=0 then 1 else 0:=by
 unfold yx HK;rw[bF h,List.filter_append,ag];congr 1;simp only[List.filter_cons,List.filter_nil,decide_eq_true_eq];split<;>rfl
end Api
end

section
namespace Go.Proofs.YtfocodjhmkokpaaGreatDoor
open Go Leg Codec Api Dsk Wal
theorem KJ{n:Nat}{a:CL}(h:CLOk n a)(u:oK a): ∀j i,j<5→i<5→WF (cJ (mr a j).mirror ((i:Nat):Int)).flat:=λj i hj _=>by
 have:OkR KD (mr a j):=((h.at' j hj).run _ (lK u hj)).1;unfold cJ;split
 · exact(this.mir _ _).wf
 · exact IP OkRow.zero
theorem HJ(l:List ReplyT)(j:Nat):yx l j≤j:=re (oJ ..) (List.length_take_le ..)
theorem Ef(n' tr:Int)(m t:Nat)(hm:1≤m∧m≤16)(ht:t≤3)(hme:n'%16+1=((m:Nat):Int))(htr:tr%4=((t:Nat):Int)):
 DT 6 #[(.int .i64 (n')),(.int .i64 (tr))] T0 [] (RI (.bool true) []):=by
 refine BD 75 Tryz.func6 rfl rfl rfl λw0 F hF=>?_
 obtain⟨_,_,hE⟩:=E7 ht (show m-1<16 by omega);rw[show m-1+1=m by omega]at hE;have hwf:=KJ (nK ht hm.2) hE.up;have hm4:m* (1+t)≤16*4:=Cs hm.2 (by omega);have hrl:((fm t m).at' 0).reps.length=m* (1+t):=hE.len
 have hmt:IntKind.wrap .i64 (((m:Nat):Int)* (1+((t:Nat):Int)))=((m* (1+t):Nat):Int):=by
  rw[show((m:Nat):Int)* (1+((t:Nat):Int))=((m* (1+t):Nat):Int)by simp];exact bG (by omega) (by omega)
 refine sr λ_ J1=>PS ?_
 refine nx J1 (aa λ_ J2=>sr λ_ J3=>CE Ow (C4) ID ?_);refine PS ?_;refine nx J3 (CN (qx J2 (sr λ_ J4=>PS ?_)));refine tp (iD (r:=(n'%16)) rfl rfl rfl (mask (k:=4) (by decide) _)) ?_;refine tp (bv (r:=((m:Nat):Int)) rfl rfl rfl ((bG (by omega) (by omega)).trans hme)) ?_;refine PS ?_;refine tp (iD (r:=((t:Nat):Int)) rfl rfl rfl ((mask (k:=2) (by decide) _).trans htr)) ?_;refine P2 ?_;refine nx J4 (sr λ_ J5=>CR Mz (yA) ID λvR HR hR=>?_);obtain⟨c,rfl,rfl⟩:=hR;refine PS ?_;refine nx J5 (aa λ_ J6=>sr λ_ J7=>P2 ?_);refine nx J7 (am ?_)
 refine bu (α:=(Nat)) (λk=>k≤m) (λk=>[(0,(.int .i64 (((m:Nat):Int)))),(1,(.int .i64 (((t:Nat):Int)))),(5,(.pointer (some ⟨c,0,none⟩))),(17,(.int .i64 (((m:Nat):Int)))),(18,(.int .i64 (((k:Nat):Int))))]) (λk=>[fh c (fm t k)]) (λk=>m-k) 0
  (aN _) SB
  (λ_ s=>s) (λk hinv=>?_)
 obtain hk:=hinv;refine sr λ_ J8=>PS ?_
 refine ao ?_ ?_<;>intro h19;obtain⟨hb1,hb2,_⟩:=E7 (t:=t) (k:=k) ht (by omega);refine nx J8 (aa λ_ J9=>CY (qx J9 (aa λ_ J10=>am (aa λ_ J11=>sr λ_ J12=>PS ?_))));refine tp (ke OpT.zero (OpT.mk 0 0 0 0 1 ChangeT.zero 0 0 0) [(0,[Value.int .i64 0]),(4,[Value.int .i64 1])] eI il (g:=OpT.sg)) ?_;refine CR HQ (pG (c:=c) (a:=fm t k) (o:=Bn) (nK ht (by omega)) (by omega) s9) ID λvR HR hR=>?_
 obtain⟨hv,hH⟩:=hR;rw[hb1]at hv;subst hv;subst hH;refine PS ?_;refine nx J12 (CN (qx J11 (aa λ_ J13=>sr λ_ J14=>P2 ?_)));refine nx J14 (am ?_)
 refine bu (α:=(Nat)) (λj=>j≤t) (λj=>[(0,(.int .i64 (((m:Nat):Int)))),(1,(.int .i64 (((t:Nat):Int)))),(5,(.pointer (some ⟨c,0,none⟩))),(17,(.int .i64 (((m:Nat):Int)))),(18,(.int .i64 (((k:Nat):Int)))),(24,(.int .i64 (((t:Nat):Int)))),(25,(.int .i64 (((j:Nat):Int))))]) (λj=>[fh c (sz j (uA (fm t k) Bn).1)]) (λj=>t-j) 0
  (aN _) SB
  (λ_ s=>s) (λj hinv=>?_)
 obtain hj:=hinv;refine sr λ_ J15=>PS ?_
 refine ao ?_ ?_<;>intro h26;refine nx J15 (aa λ_ J16=>CY (qx J16 (aa λ_ J17=>am (sr λ_ J18=>PS ?_))));refine tp (ke OpT.zero (OpT.mk 0 0 0 0 1 ChangeT.zero 0 0 0) [(0,[Value.int .i64 0]),(4,[Value.int .i64 1])] eI il (g:=OpT.sg)) ?_;refine CR HQ (pG (c:=c) (a:=sz j (uA (fm t k) Bn).1) (o:=Bn) (sy j (B3 (nK (k:=k) ht (by omega)) s9)) (by omega) s9) ID λvR HR hR=>?_
 obtain⟨hv,hH⟩:=hR;rw[yT t j _ (by omega) hb2]at hv;subst hv;subst hH;refine PS ?_;refine nx J18 (CN (aM (af (ac J17 (ad (AD ?_))))));refine PS ?_;refine ap ?_
 exact aJ ((j+1):(Nat)) (by omega) (by show t- (j+1)<t-j;omega)
  SB
  (λ_ s=>by rw[wT];exact s)
 refine nx J15 (aa λ_ J19=>CN (aV (ay (ay (bh (ac J13 (ad (PS ?_))))))));refine CZ Ov (zl c (64+1+j) (sz j (uA (fm t k) Bn).1) (sy j (B3 (nK (k:=k) ht (by omega)) s9)) (by omega) 2 (by decide)) ID λvR=>?_
 refine ap (af (ac J10 (ad (AD ?_))));refine PS ?_;refine ap ?_
 exact aJ ((k+1):(Nat)) (by omega) (by show m- (k+1)<m-k;omega)
  SB
  (λ_ s=>by rw[show j=t by omega]at s;exact s)
 refine nx J8 (aa λ_ J20=>CN (aV (ay (ay (bh (ac J6 (sr λ_ J21=>PS ?_)))))));refine nx J21 (aa λ_ J22=>sr λ_ J23=>?_);have hkm:k=m:=by omega
 rw[hkm];refine PS ?_;refine Nr (H':=λg:CX=>[dB c (fm t m) g]) (λ_ s=>GH s) (λg=>CR Gg (n6 (c:=c) (g:=g) (i:=0) (nK ht hm.2) (by decide) (by decide)) ID λvR HR hR=>?_);obtain⟨_,h1ua,rfl,rfl⟩:=hR;revert vR;intro ua h1ua;refine gj 1 rfl rfl (λhlua _=>tp (c8 rfl El rfl hlua) ?_);refine PS ?_;refine nx J23 (am ?_)
 refine bu (α:=(Nat)) (λj=>j≤((fm t m).at' 0).reps.length) (λj=>[(0,(.int .i64 (((m:Nat):Int)))),(1,(.int .i64 (((t:Nat):Int)))),(5,(.pointer (some ⟨c,0,none⟩))),(6,(.int .i64 (((yx ((fm t m).at' 0).reps j:Nat):Int)))),(36,ua),(37,(.int .i64 (((((fm t m).at' 0).reps.length:Nat):Int)))),(38,(.int .i64 (((j:Nat):Int))))]) (λj=>[dB c (fm t m) g,own ua ((((fm t m).at' 0).reps).length) (ints (List.flatMap ReplyT.flat (((fm t m).at' 0).reps))) 47 3]) (λj=>((fm t m).at' 0).reps.length-j) 0
  (aN _) SB
  (λ_ s=>s) (λj hinv=>?_)
 obtain hj:=hinv;refine sr λ_ J24=>PS ?_
 refine ao ?_ ?_<;>intro h39;refine ij 1 rfl rfl (by omega) (λgua capua hvua hcapua=>?_);have hjl:j< ((fm t m).at' 0).reps.length:=by omega
 have hoj:=HJ ((fm t m).at' 0).reps j;refine nx J24 (aa λ_ J25=>CY (qx J25 (aa λ_ J26=>am (sr λ_ J27=>tp (bg (r:=j*3) hvua rfl El KN rfl rfl (by omega) (by omega) (by omega)) ?_))));refine tp (Cx (vs:=ints (((fm t m).at' 0).reps[j]'(by omega)).flat) rfl Tryz.underlying47 rfl KN rfl (fI 1 rfl hvua rfl) (Nt _) (BN ReplyT.flat_length (((fm t m).at' 0).reps) (by omega))) ?_;refine XZ O3 (ints ReplyT.zero.flat) λb8=>?_
 refine SW 0 KN Nt ?_;refine nx J27 (sr λ_ J28=>FA 1 Tryz.underlying47 NV ?_);refine LT 0 Tryz.underlying45 (.int .i64 ((((fm t m).at' 0).reps[j]'(by omega)).err)) ?_ (hc:=by exact ReplyT.at_err _ rfl);refine PS ?_;refine ao ?_ ?_<;>intro h44;refine nx J28 (CY (ad (PS ?_)));refine AD ?_;refine PS ?_;refine ap (af (ac J26 (ad (AD ?_))));refine PS ?_;refine ap ?_
 exact aJ ((j+1):(Nat)) (by omega) (by show((fm t m).at' 0).reps.length- (j+1)< ((fm t m).at' 0).reps.length-j;omega)
  (aX (aX (aX (bC rfl (by rw[wi _ hjl,if_pos h44];simp) SB))))
  (λ_ s=>ak [1,1] rfl s)
 refine nx J28 (CN (aM (af (ac J26 (ad (AD ?_))))));refine PS ?_;refine ap ?_
 exact aJ ((j+1):(Nat)) (by omega) (by show((fm t m).at' 0).reps.length- (j+1)< ((fm t m).at' 0).reps.length-j;omega)
  (aX (aX (aX (bC rfl (by rw[wi _ hjl,if_neg h44];simp) SB))))
  (λ_ s=>ak [1,1] rfl s)
 refine nx J24 (aa λ_ J29=>CN (aV (ay (ay (bh (ac J22 (sr λ_ J30=>?_)))))));have hjl:j=((fm t m).at' 0).reps.length:=by omega
 have hok0:yx ((fm t m).at' 0).reps j=m:=by rw[hjl];exact(congrArg HK eV).trans hE.oks
 rw[hok0];refine P2 ?_;refine tp (kB (v':=(.bool true)) (xV rfl rfl rfl) (by simp)) ?_;refine P2 ?_;refine CR Gg (n6 (c:=c) (g:=g) (i:=0) (nK ht hm.2) (by decide) (by decide)) ID λvR HR hR=>?_
 obtain⟨_,h1ub,rfl,rfl⟩:=hR;revert vR;intro ub h1ub;refine gj 1 rfl rfl (λhlub _=>tq (c8 rfl El rfl hlub) ?_);refine P2 ?_;refine tq (bv rfl rfl rfl (bG (by omega) (by omega))) ?_;refine tq (GV (r:=((m* (1+t):Nat):Int)) rfl rfl rfl hmt) ?_;refine tq (kB (v':=(.bool true)) (xV rfl rfl rfl) (by simp[hE.len])) ?_;refine P3 ?_;refine CR Ld (qw c (fm t m) g hE.up hwf) ID λvR HR hR=>?_
 obtain⟨bt,rfl,rfl⟩:=hR;refine CR Jz (ky bt 0 85 (λx=>ints x.flat) oT (qy (fm t m)) 0) (SM [1]) λvR HR hR=>?_
 obtain⟨hv,rfl⟩:=hR;rw[hE.truth]at hv;subst hv;refine PS ?_;refine tq (kB (v':=(.bool true)) (xV rfl rfl rfl) (by simp)) ?_;refine P3 ?_;refine CE Ds (jV (c:=c) (g:=g) (i:=1) hE.up (by decide)) (SM [1]) ?_;refine CR Ou (sd (i:=1) (by decide) (lK hE.up (by decide)) (AE (mr (fm t m) 1) (g.d 1) (g.r 1) 0)) ID λvR HR hR=>?_
 obtain⟨hv,rfl⟩:=hR;rw[hE.v1 _ (lK hE.up (by decide))]at hv;subst hv;refine PS ?_;refine tq (kB (v':=(.bool true)) (xV rfl rfl rfl) (by simp)) ?_;refine P2 ?_;exact nx J30 (ah (WK [] (av rfl rfl ⟨rfl,rfl⟩)))
theorem wholeBusy_does(n' tr:Int):DT 6 #[.int .i64 n', .int .i64 tr] T0 [] (RI (.bool true) []):=by
 obtain⟨m,hm⟩: ∃m:Nat,n'%16+1=((m:Nat):Int):=⟨(n'%16+1).toNat,by omega⟩;obtain⟨t,ht⟩: ∃t:Nat,tr%4=((t:Nat):Int):=⟨(tr%4).toNat,by omega⟩;exact Ef n' tr m t ⟨by omega,by omega⟩ (by omega) hm ht
end Go.Proofs.YtfocodjhmkokpaaGreatDoor
end
