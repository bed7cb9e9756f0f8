/-
  Joined texts:what a statement's proof reaches.
-/
import Derived.Laws.MakeOwn
import Derived.OwnWalk
import Derived.OpenShut
import Derived.Deep.Slices
import Derived.ChangeArms
import Derived.WalkSpells
import Derived.Test.YtjblgopghhgflaaGreatPAT2
set_option maxHeartbeats 8000000
set_option maxRecDepth 100000
set_option linter.unusedSimpArgs false
set_option linter.unusedVariables false
section
namespace Api
open Go Leg Codec
def gr(n:Int):Int:=IntKind.i64.wrap n
theorem Je{n:Int}(h1: -9223372036854775808≤n)(h2:n≤9223372036854775807):gr n=n:=bX h1 h2
def np(key:Int):Bool:=decide (0≤key∧key<4)
theorem fm{w:Int}(h:cH w=true):w.toNat<5:=by have:0≤w∧w<5:=of_decide_eq_true h;omega
theorem BI{k:Int}(h:np k=true):k.toNat<4:=by have:0≤k∧k<4:=of_decide_eq_true h;omega
def yM(key n:Int):Bool:=np key&&decide (1≤n)&&JM n
def dX(x:RowT)(key:Int):CellT:=if h:np key=true then x.cells[key.toNat]'(BI h)else .zero
def mi(x:RowT)(key:Int)(c:CellT):RowT:=if h:np key=true then {x with cells:=x.cells.set key.toNat c (BI h)}else x
def ld(x:RowT)(key n counts:Int)(c:CellT):RowT×Int:=
 if counts>1099511627776-n then(.zero,6)else({mi x key c with version:=gr (x.version+1)},0)
def pL(x:RowT)(key n:Int):RowT×Int:=
 if yM key n then ld x key n (dX x key).inn {dX x key with inn:=gr ((dX x key).inn+n)}else(.zero,5)
def pM(x:RowT)(key n:Int):RowT×Int:=
 if yM key n then ld x key n (dX x key).out {dX x key with out:=gr ((dX x key).out+n)}else(.zero,5)
def mm(c:CellT)(to:Int):Int:=if h:cH to=true then c.given[to.toNat]'(fm h)else 0
def yk(c:CellT)(to v:Int):CellT:=if h:cH to=true then {c with given:=c.given.set to.toNat v (fm h)}else c
def Js(c:CellT):Int:=c.given.toList.foldl (λs g=>gr (s+g)) 0
def mh(x:RowT)(key n to:Int):RowT×Int:=
 if cH to&&yM key n then ld x key n (Js (dX x key)) (yk (dX x key) to (gr (mm (dX x key) to+n)))else(.zero,5)
def ownAt(x:RowT)(who:Int)(i:Nat):Bool:=decide ((i:Int)=who)||decide (0<x.heir.toList.getD i 0)
def jd(x:RowT)(who:Int)(k:Nat):List Int:=((List.range k).filter (ownAt x who)).map λi=>((i:Nat):Int)
def gM(x:RowT)(who:Int):List Int:=jd x who 5
theorem sq(x:RowT)(who:Int)(k:Nat):jd x who (k+1)=jd x who k++(if ownAt x who k then [((k:Nat):Int)]else []):=by
 unfold jd;rw[dd,List.filter_append,de]
 by_cases h:ownAt x who k=true<;>simp[h]
theorem xQ(x:RowT)(who:Int){i:Nat}(h:i<5):ownAt x who i=(decide ((i:Int)=who)||decide (0<x.heir[i])):=by simp[ownAt,h]
theorem H8(x:RowT)(who:Int)(k:Nat):(jd x who k).length≤k:=by
 unfold jd;rw[cf];exact zC (Cf _ _) (by simp)
def fh(x:RowT)(of':Int):Int:=if h:cH of'=true then x.heir[of'.toNat]'(fm h)else 0
def FF(x:RowT)(of' key:Int):CellT:=if h:cH of'=true∧np key=true then(x.left[of'.toNat]'(fm h.1))[key.toNat]'(BI h.2)else .zero
def kT(x:RowT)(who of' key:Int):CellT×Int:=
 if cH who&&cH of'&&np key then(if of'=who then(dX x key,x.version)else if fh x of'>0 then(FF x of' key,gr (fh x of'-1))else(.zero, -1))else(.zero, -1)
def gJ(who:Int):List Int:=if cH who then [(who+1)%5,(who+2)%5]else []
def bL(b:BookT)(who:Int):RowT:=if h:cH who=true then b.rows[who.toNat]'(fm h)else .zero
theorem nX(b:BookT){k:Nat}(h:k<5):bL b ((k:Nat):Int)=b.rows[k]:=by rw[bL,dif_pos (show cH ((k:Nat):Int)=true from decide_eq_true ⟨by omega,by omega⟩)];rfl
def uU(b:BookT)(who:Int)(x:RowT):BookT:=if h:cH who=true then {b with rows:=b.rows.set who.toNat x (fm h)}else b
def fz(b:BookT)(who:Int)(x:RowT):BookT×Bool:=
 if cH who&&eH x&&decide (x.version>(bL b who).version)then(uU b who x,true)else(b,false)
def ul(b:BookT)(of' key:Int)(s:CellT×Int)(i:Nat):CellT×Int:=
 let c:=kT (bL b i) i of' key
 if c.2>s.2 then c else s
def yH(b:BookT)(of' key:Int)(k:Nat):CellT×Int:=(List.range k).foldl (ul b of' key) (.zero, -1)
def dp(b:BookT)(of' key:Int):CellT:=(yH b of' key 5).1
theorem wm(b:BookT)(of' key:Int)(k:Nat):yH b of' key (k+1)=ul b of' key (yH b of' key k) k:=by
 unfold yH;rw[dd,fj];rfl
def tj(b:BookT)(key:Int)(k:Nat):Int:=(List.range k).foldl (λv (i:Nat)=>gr (v+gr ((dp b i key).inn- (dp b i key).out))) 0
def nE(b:BookT)(key:Int):Int:=tj b key 5
theorem A3(b:BookT)(key:Int)(k:Nat):tj b key (k+1)=gr (tj b key k+gr ((dp b k key).inn- (dp b k key).out)):=by
 unfold tj;rw[dd,fj];rfl
def qO(b:BookT)(key of':Int)(r:Int)(k:Nat):Int:=(List.range k).foldl (λr (i:Nat)=>gr (r+gr (mm (dp b i key) of'-mm (dp b of' key) i))) r
theorem y3(b:BookT)(key of' r:Int)(k:Nat):qO b key of' r (k+1)=gr (qO b key of' r k+gr (mm (dp b k key) of'-mm (dp b of' key) k)):=by
 unfold qO;rw[dd,fj];rfl
def pN(b:BookT)(key r of':Int):Int:=qO b key of' (gr (r+gr ((dp b of' key).inn- (dp b of' key).out))) 5
def nY(b:BookT)(who key:Int):Int:=if cH who then(gM (bL b who) who).foldl (pN b key) 0 else 0
theorem Fc(x:RowT)(who:Int): ∀n∈gM x who,0≤n∧n<5:=by
 intro n hn;simp only[gM,jd,dQ,N7,fA]at hn;obtain⟨i,⟨hi,_⟩,rfl⟩:=hn;omega
theorem yj(c:CellT){k:Nat}(h:k<5):mm c ((k:Nat):Int)=c.given[k]:=by rw[mm,dif_pos (show cH ((k:Nat):Int)=true from decide_eq_true ⟨by omega,by omega⟩)];rfl
def cb(m:MirT)(who:Int):RowT:=if h:cH who=true then m.rows[who.toNat]'(fm h)else .zero
def fy(m:MirT)(who:Int):Bool:=if h:cH who=true then m.sealed[who.toNat]'(fm h)else false
def kG(m:MirT)(who:Int)(x:RowT):Bool:=cH who&& !fy m who&&eH x&&decide (x.version>(cb m who).version)
def u7(m:MirT)(who:Int)(x:RowT):MirT:=if h:cH who=true then {m with rows:=m.rows.set who.toNat x (fm h)}else m
def kf(m:MirT)(who:Int)(x:RowT):MirT×Bool:=if kG m who x then(u7 m who x,true)else(m,false)
def jR(m:MirT)(who:Int):MirT:=if h:cH who=true then {m with sealed:=m.sealed.set who.toNat true (fm h)}else m
end Api
end

section
namespace Leg
open Go Codec Api
theorem zb(v:Value)(n:Nat):madeCells #[v] n=(List.replicate n v).toArray:=by
 unfold madeCells;apply Array.ext
 · simp
 · intro i h1 h2
   simp at h1;simp[Nat.mod_one]
theorem Lp(n:Nat):eB (List.replicate n 0)=List.replicate n (.int .u8 0):=by simp[eB]
section
variable {P:Program} {w0:World} {F:Hl} {n:Nat} {ops:Array Oper} {Q:QQ} {D:List Deferred} {L:List (Nat×Value)} {H:List HP} {o:Oper} {l:List Oper} {d:Nat} {S:World→Prop}
theorem TL.mono{H':List HP}(m: ∀h,bH H h→bH H' h)(h:TL P w0 F n ops Q l D L H'):TL P w0 F n ops Q l D L H:=TL.weak (dE _) m h
abbrev cJ:= @TL.mono
theorem TL.makeB{t e:TypeId}{x y:Operand}{k k':IntKind}{a b:Int}(m c:Nat)(hw:Want n D ops o L)(ho:o.op= .makeSlice t x y)(hd:o.dst=some d)(hn:Nat.blt d n=true)(ht:P.underlying t=some (.slice e))
 (hi:(P.info? e).map (λi=>(i.zero,i.size,i.bytes))=some (some (.int .u8 0),1,1)) (hx:cR L x=some (.int k a)) (hy:cR L y=some (.int k' b)) (ha:a=(m:Int)) (hb:b=(c:Int)) (h1:m≤c) (h2:c≤281474976710656)
 (h: ∀b,TL P w0 F n ops Q l D ((d, .slice (some ⟨b,0,none⟩) m c)::L) (am b (eB (List.replicate c 0)) e::H)):TL P w0 F n ops Q (o::l) D L H:=
 mT hw λa w f sm q=>by
  subst ha;subst hb;obtain⟨i,hie,hz0,hs,hb⟩:=info_parts hi;have hr:=run_make (P:=P) w t e i (.int .u8 0) ht hie hz0 k k' (m:Int) (c:Int) (by omega) (by omega) (by rw[hb];omega) (by omega)
  have e1:madeCells (Value.cells (.int .u8 0)) ((c:Int).toNat*i.size)=(eB (List.replicate c 0)).toArray:=by
   rw[hs,gp,K8,Lp];exact zb _ _
  rw[e1]at hr;simp only[K8]at hr
  have r:(execOp a.eval o).run P w= .ok (.value (.slice (some ⟨w.heap.size,0,none⟩) m c)) (w.alloc (.cells (eB (List.replicate c 0)).toArray e)):=by
   simp only[execOp,ho,f.eval hx,f.eval hy,Sem.run_bind,hr,Result.andThen_ok,Sem.run_pure]
  unfold Oper.wp;rw[r,Oper.upon_value,hd];exact h _ _ _ (f.put (lb hn) _) (sm.trans ⟨rfl,rfl,rfl,by simp⟩) (q.alloc _)
def kK:Value→Nat→Nat→Value
 | .slice a m c,lo,hi=> .slice (if c=lo then a else a.map (·.add lo)) (hi-lo) (c-lo)
 |v,_,_=>v
theorem PV.sliceLH{t e:TypeId}{x y z:Operand}{a:Option Addr}{len cap lo hi:Nat}{k k':IntKind}{i j:Int}(ho:o.op= .slice t x (some y) (some z) none)(ht:P.underlying t=some (.slice e))(hs:(P.info? e).map (·.size)=some 1)
 (hx:cR L x=some (.slice a len cap)) (hy:cR L y=some (.int k i)) (hz:cR L z=some (.int k' j)) (hi':i=(lo:Int)) (hj:j=(hi:Int)) (h1:lo≤hi) (h2:hi≤cap):PV P n D L S o (kK (.slice a len cap) lo hi):=
 λb w g _=>by
  subst hi';subst hj;simp only[execOp,ho,g.eval hx,Option.map_some,Option.map_none,g.eval hy,g.eval hz,kK]
  by_cases q:cap=lo
  · have e2:hi=lo:=by omega
    subst e2;simp[Instr.sliceAt,Instr.slice,run_underlying ht,Instr.sliceBounds,Instr.sliceBound,asIntOf,ez hs,q]
  · simp[Instr.sliceAt,Instr.slice,run_underlying ht,Instr.sliceBounds,Instr.sliceBound,asIntOf,h1,h2,ez hs,q]
theorem PV.sliceH{t e:TypeId}{x z:Operand}{a:Option Addr}{len cap hi:Nat}{k':IntKind}{j:Int}(ho:o.op= .slice t x none (some z) none)(ht:P.underlying t=some (.slice e))(hs:(P.info? e).map (·.size)=some 1)
 (hx:cR L x=some (.slice a len cap)) (hz:cR L z=some (.int k' j)) (hj:j=(hi:Int)) (h2:hi≤cap):PV P n D L S o (kK (.slice a len cap) 0 hi):=
 λb w g _=>by
  subst hj;simp only[execOp,ho,g.eval hx,Option.map_some,Option.map_none,g.eval hz,kK]
  by_cases q:cap=0
  · have e2:hi=0:=by omega
    subst e2;simp[Instr.sliceAt,Instr.slice,run_underlying ht,Instr.sliceBounds,Instr.sliceBound,asIntOf,ez hs,q]
  · simp[Instr.sliceAt,Instr.slice,run_underlying ht,Instr.sliceBounds,Instr.sliceBound,asIntOf,h2,ez hs,q]
theorem PV.sliceL{t e:TypeId}{x y:Operand}{a:Option Addr}{len cap lo:Nat}{k:IntKind}{i:Int}(ho:o.op= .slice t x (some y) none none)(ht:P.underlying t=some (.slice e))(hs:(P.info? e).map (·.size)=some 1)
 (hx:cR L x=some (.slice a len cap)) (hy:cR L y=some (.int k i)) (hi:i=(lo:Int)) (h1:lo≤len):PV P n D L S o (kK (.slice a len cap) lo len):=
 λb w g _=>by
  subst hi;simp only[execOp,ho,g.eval hx,Option.map_some,Option.map_none,g.eval hy,kK]
  by_cases q:cap=lo
  · simp[Instr.sliceAt,Instr.slice,run_underlying ht,Instr.sliceBounds,Instr.sliceBound,asIntOf,h1,ez hs,q]
  · simp[Instr.sliceAt,Instr.slice,run_underlying ht,Instr.sliceBounds,Instr.sliceBound,asIntOf,h1,ez hs,q]
end
theorem IsW.form{v:Value}{bs:List UInt8}{F:Hl}(h:IsW v bs F): ∃a c,v= .slice a bs.length c∧bs.length≤c∧(bs.length=0∨c≤9223372036854775807):=by
 rcases h with(⟨rfl,rfl⟩| ⟨b,off,cap,cs,T,z,rfl,h1,h2,_⟩)| ⟨a,c,rfl,rfl⟩
 · exact⟨_,_,rfl,aI _, .inl rfl⟩
 · exact⟨_,_,rfl,h1, .inr h2⟩
 · exact⟨_,_,rfl,aN _, .inl rfl⟩
theorem IsW.lt{v:Value}{bs:List UInt8}{F:Hl}(h:IsW v bs F):bs.length≤9223372036854775807:=by
 obtain⟨a,c,_,h1,h2⟩:=h.form;omega
theorem IsW.cut{v:Value}{bs:List UInt8}{F:Hl}(h:IsW v bs F){lo hi:Nat}(h1:lo≤hi)(h2:hi≤bs.length):IsW (kK v lo hi) ((bs.take hi).drop lo) F:=by
 have hl:((bs.take hi).drop lo).length=hi-lo:=by simp;omega
 by_cases e:hi-lo=0
 · obtain⟨a,c,rfl,hc,_⟩:=h.form
   have e0:(bs.take hi).drop lo=[]:=List.eq_nil_of_length_eq_zero (by omega);rw[e0];simp only[kK,e];split
   · cases a with
     |some a=>exact .inr ⟨_,_,rfl,rfl⟩
     |none=>
      rcases h with(⟨h,rfl⟩| ⟨b,off,cap,cs,T,z,h,_⟩)| ⟨a,c,h,_⟩
      · injection h with _ _ h;subst h;exact .inl (.inl ⟨by simp,rfl⟩)
      · simp at h
      · simp at h
   · cases a with
     |some a=>exact .inr ⟨_,_,rfl,rfl⟩
     |none=>
      rcases h with(⟨h,rfl⟩| ⟨b,off,cap,cs,T,z,h,_⟩)| ⟨a,c,h,_⟩
      · injection h with _ _ h;subst h;exact .inl (.inl ⟨by simp,rfl⟩)
      · simp at h
      · simp at h
 · obtain⟨b,off,cap,cs,T,z,rfl,hb,hcs,hc⟩:=h.at (j:=0) (by omega)
   rcases h.form with⟨a,c,hv,_,hm⟩
   injection hv with _ _ hv
   subst hv;refine .inl (.inr ⟨b,off+lo,cap-lo,cs,T,z,?_,by omega,by omega,hb,λj hj=>?_⟩)
   · simp only[kK,hl,if_neg (show ¬cap=lo by omega),Option.map_some,q8]
   · rw[hl]at hj
     rw[n6,hcs (lo+j) (by omega)];congr 2;simp[List.getD_eq_getElem?_getD,List.getElem?_take,show lo+j<hi by omega]
def hY(v:Value)(bs:List UInt8)(e:Nat):HP:=λh=>
 (v= .slice none 0 0∧bs=[]∧h=em)∨∃g off cap cur,v= .slice (some ⟨g,off,none⟩) bs.length cap∧h=sg g (.cells cur e (0,0))∧bs.length≤cap∧cap≤maxLen∧off+cap≤cur.size∧(cur.toList.drop off).take bs.length=eB bs
theorem qI{v:Value}{bs:List UInt8}{e:Nat}{h:Hl}(x:ee v bs e h):hY v bs e h:=by
 rcases x with⟨_,⟨h1,h2,h3⟩| ⟨g,cap,cur,h1,h2,h3,h4,h5,h6⟩⟩
 · exact .inl ⟨h1,List.eq_nil_of_length_eq_zero h2,h3⟩
 · exact .inr ⟨g,0,cap,cur,h1,h2,h3,h4,by omega,by simpa using h6⟩
section
variable {H:List HP} {F:Hl} {v:Value} {bs:List UInt8} {e:Nat}
theorem Bc(i:Nat)(hi:Nat.blt i H.length=true)(hH:H.getD i (λ_=>True)=ee v bs e){h:Hl}(s:bH H h):bH (H.set i (hY v bs e)) h:=
 ly i (lb hi) (cO (fl i (lb hi) s) (λ_ x=>qI (by rwa [hH]at x)) λ_ x=>x)
theorem xp{lo hi nn:Nat}{bs':List UInt8}(i:Nat)(hi':Nat.blt i H.length=true)(hH:H.getD i (λ_=>True)=ee v bs e){g cap:Nat}(hv:v= .slice (some ⟨g,0,none⟩) nn cap)(h1:lo≤hi)(h2:hi≤bs.length)(h3:lo<bs.length)(hb:(bs.take hi).drop lo=bs'){h:Hl}(s:bH H h):
 bH (H.set i (hY (kK v lo hi) bs' e)) h:=by
 subst hb;have hl:((bs.take hi).drop lo).length=hi-lo:=by simp;omega
 refine ly i (lb hi') (cO (fl i (lb hi') s) (λ_ x=>?_) λ_ x=>x);rw[hH]at x;rcases x with⟨_,⟨h1,h2,_⟩| ⟨g',cap',cur,h4,h5,h6,h7,h8,h9⟩⟩
 · rw[hv]at h1;simp at h1
 · rw[hv]at h4 ⊢
   simp only[Value.slice.injEq,Option.some.injEq,Addr.mk.injEq,and_true,true_and]at h4;obtain⟨rfl,rfl,rfl⟩:=h4;refine .inr ⟨g,lo,cap-lo,cur,?_,h5,by omega,by omega,by omega,?_⟩
   · simp only[kK,hl,if_neg (show ¬cap=lo by omega),Option.map_some,q8,bn]
   · rw[hl]
     rw[gp]at h9;have e1:=congrArg (λl:List Value=>(l.take hi).drop lo) h9;simp only[Ex,Nat.min_eq_left h2]at e1;rw[←pB,e1];simp[eB,qu,lN]
theorem Sat.sub_form{w:World}(i:Nat)(s:Sat H F w)(hi:Nat.blt i H.length=true)(hH:H.getD i (λ_=>True)=hY v bs e):(v= .slice none 0 0∧bs=[])∨∃g off cap cur,v= .slice (some ⟨g,off,none⟩) bs.length cap∧w.heap[g]?=some (.cells cur e (0,0))∧bs.length≤cap∧cap≤maxLen∧off+cap≤cur.size∧(cur.toList.drop off).take bs.length=eB bs:=by
 obtain⟨h,d,e',x⟩:=s;obtain⟨h1,h2,d',rfl,a,_⟩:=fl i (lb hi) x;rw[hH]at a;rcases a with⟨x1,x2,_⟩| ⟨g,off,cap,cur,x1,x2,x3⟩
 · exact .inl ⟨x1,x2⟩
 · refine .inr ⟨g,off,cap,cur,x1,?_,x3⟩
   have:hp w g=some (.cells cur e (0,0)):=by
    rw[e',jU];exact iz (by rw[x2];simp[sg])
   exact this
theorem Sat.sub_len{w:World}(i:Nat)(s:Sat H F w)(hi:Nat.blt i H.length=true)(hH:H.getD i (λ_=>True)=hY v bs e):qd v bs.length∧v.oneCell'=true:=by
 rcases s.sub_form i hi hH with⟨rfl,rfl⟩| ⟨g,off,cap,cur,rfl,_⟩
 · exact⟨⟨_,_,rfl⟩,rfl⟩
 · exact⟨⟨_,_,rfl⟩,rfl⟩
theorem Src.sub(i:Nat)(hi:Nat.blt i H.length=true)(hH:H.getD i (λ_=>True)=hY v bs e){w:World}(s:Sat H F w):Src (Sat H F) v bs.length (eB bs) 1:=by
 refine⟨by simp[eB],?_⟩;rcases s.sub_form i hi hH with⟨rfl,rfl⟩| ⟨g,off,cap,cur,rfl,_⟩
 · exact .inl ⟨rfl,rfl⟩
 · refine .inr ⟨⟨g,off,none⟩,cap,rfl,λw s j u hj=>?_⟩
   rcases s.sub_form i hi hH with⟨h1,_⟩| ⟨g',off',cap',cur',h1,h2,h3,h4,h5,h6⟩
   · simp at h1
   · simp only[Value.slice.injEq,Option.some.injEq,Addr.mk.injEq,and_true,true_and]at h1
     obtain⟨⟨rfl,rfl⟩,rfl⟩:=h1;rw[q8];rw[←h6,List.getElem?_take]at hj;split at hj
     · simp only[World.cell?,h2,Option.isSome_none,Bool.false_eq_true,if_false]
       simpa using hj
     · cases hj
theorem BJ(i:Nat){B:List HP}(hi:Nat.blt i B.length=true)(hH:B.getD i (λ_=>True)=hY v bs e): ∀g,Dj g F→bH B g→IsB v bs (jn g F):=λg _ s=>by
 obtain⟨h1,h2,d',rfl,a,_⟩:=fl i (lb hi) s;rw[hH]at a;rcases a with⟨x1,x2,_⟩| ⟨g,off,cap,cur,x1,x2,x3,x4,x5,x6⟩
 · exact .inl ⟨x1,x2⟩
 · refine .inr ⟨g,off,cap,cur.toList,e,(0,0),x1,x3,by simpa [maxLen]using x4,iz (iz (by rw[x2];simp[sg])),λj hj=>?_⟩
   have e1:=congrArg (λl:List Value=>l[j]?) x6;simp only[List.getElem?_take,if_pos hj,List.getElem?_drop]at e1;rw[e1];simp[eB,List.getD_eq_getElem?_getD,hj]
end
theorem uQ{P:Program}(w:World)(t ty e:TypeId)(i:TypeInfo)(ht:P.underlying t=some (.slice e))(hi:P.info? e=some i)(g off sLen sCap:Nat)(cur:Array Value)(hg:w.heap[g]?=some (.cells cur e (0,0)))
 (a:Addr) (m c:Nat) (news:List Value) (hl:news.length=m*i.size) (hnews: ∀j u,news[j]?=some u→w.cell? (a.add j)=some u) (h1: ∀u∈news,u.oneCell'=true)
 (hroom:sLen+m≤sCap) (hfit:off+sLen*i.size+news.length≤cur.size):
 (Builtin.append_ #[t,t] ty #[.slice (some ⟨g,off,none⟩) sLen sCap, .slice (some a) m c]).run P w=
  .ok (.slice (some ⟨g,off,none⟩) (sLen+m) sCap) (w.setRow g (cur.toList.take (off+sLen*i.size)++news++cur.toList.drop (off+sLen*i.size+news.length)).toArray):=by
 have hf:=run_firstCells_some (P:=P) w i.size m a m c news hl hnews;have hst:=run_storeCells_at P g (off+sLen*i.size) e news 0 cur w hg (by simpa using hfit) h1;simp only[K6]at hst;simp[Builtin.append_,run_underlying ht,Go.sizeOf,typeInfo,hi,Builtin.lenOf,hroom,hf,Addr.add_lit,hst]
section
variable {P:Program} {w0:World} {F:Hl} {n:Nat} {ops:Array Oper} {Q:QQ} {D:List Deferred} {L:List (Nat×Value)} {H:List HP} {o:Oper} {l:List Oper} {d:Nat} {S:World→Prop}
theorem Sat.sub_open{w:World}{k:Nat}{v:Value}{bs:List UInt8}{e:TypeId}(s:Sat H F w)(hk:Nat.blt k H.length=true)(hH:H.getD k (λ_=>True)=hY v bs e):
 (v= .slice none 0 0∧bs=[]∧Sat (H.set k (ee (.slice none 0 0) [] e)) F w)∨∃g off cap cur,v= .slice (some ⟨g,off,none⟩) bs.length cap∧Sat (H.set k (Bw g (.cells cur e (0,0)))) F w∧bs.length≤cap∧cap≤maxLen∧off+cap≤cur.size∧(cur.toList.drop off).take bs.length=eB bs:=by
 obtain⟨h,d,e',x⟩:=s;obtain⟨h1,h2,d',rfl,a,y⟩:=fl k (lb hk) x;rw[hH]at a;rcases a with⟨x1,x2,x3⟩| ⟨g,off,cap,cur,x1,x2,x3⟩
 · exact .inl ⟨x1,x2,_,d,e',ly k (lb hk) ⟨h1,h2,d',rfl,⟨rfl, .inl ⟨rfl,rfl,x3⟩⟩,y⟩⟩
 · exact .inr ⟨g,off,cap,cur,x1,⟨_,d,e',ly k (lb hk) ⟨h1,h2,d',rfl,x2,y⟩⟩,x3⟩
theorem Src.of_eq{S':World→Prop}{x:Value}{m size:Nat}{news:List Value}(h:Src S x m news size)(hS: ∀w,S' w→S w):Src S' x m news size:=⟨h.1,h.2.imp id λ⟨a,c,q3,q4⟩=>⟨a,c,q3,λw' s'=>q4 w' (hS w' s')⟩⟩
theorem C2{k:Nat}{q:HP}(hk:Nat.blt k H.length=true)(hH:H.getD k (λ_=>True)=q):H.set k q=H:=by
 rw[←hH,List.getD_eq_getElem?_getD,List.getElem?_eq_getElem (lb hk)];exact List.set_getElem_self _
theorem C8{w:World}{k:Nat}{v x:Value}{bs news:List UInt8}{t ty e:TypeId}(s:Sat H F w)(ht:P.underlying t=some (.slice e))(hi:(P.info? e).map (λi=>(i.zero,i.size,i.bytes))=some (some (.int .u8 0),1,1))
 (hk:Nat.blt k H.length=true) (hH:H.getD k (λ_=>True)=hY v bs e) (hx:Src (Sat H F) x news.length (eB news) 1) (hb:bs.length+news.length≤140737488355328):
 ∃v' w',(Builtin.append_ #[t,t] ty #[v,x]).run P w= .ok v' w'∧Same w w'∧Sat (H.set k (hY v' (bs++news) e)) F w':=by
 rcases s.sub_open hk hH with⟨rfl,rfl,s1⟩| ⟨g,off,cap,cur,rfl,s1,h3,h4,h5,h6⟩
 · have hx':Src (Sat (H.set k (ee (.slice none 0 0) [] e)) F) x news.length (eB news) 1:=hx.of_eq λw' s'=>by
    have:=s'.turn (q:=hY (.slice none 0 0) [] e) k (by simpa using lb hk) λh hh=>by
     rw[jf (lb hk)]at hh;exact qI hh
    rwa [iM,C2 hk hH]at this
   obtain⟨v',w',r1,r2,r3⟩:=vK (k:=k) (nn:=0) (m:=news.length) (v:= .slice none 0 0) (xs:=eB []) (news:=eB news) (ty:=ty) s1 ht hi rfl (by decide) (by simpa using lb hk) (jf (lb hk) _) hx' (fk _) (by simp only[maxLen];simp at hb;omega) (by simp at hb;omega);refine⟨v',w',r1,r2,?_⟩;rw[iM]at r3
   have:=r3.turn (q:=hY v' ([]++news) e) k (by simpa using lb hk) λh hh=>by
    rw[jf (lb hk)]at hh;refine qI ?_;rw[←jH,bn,bb]at hh;exact hh
   rwa [iM]at this
 · obtain⟨i,hie,hz0,hsz,hby⟩:=info_parts hi
   obtain⟨hxl,hxx⟩:=hx;have hg:w.heap[g]?=some (.cells cur e (0,0)):=s1.block k (by simpa using lb hk) (jf (lb hk) _)
   by_cases hroom:bs.length+news.length≤cap
   · rcases hxx with⟨rfl,hm⟩| ⟨a0,c,rfl,hc⟩
     · have hn:news=[]:=List.eq_nil_of_length_eq_zero hm
       subst hn;refine⟨_,w,?_,sX w,by rw[aR,C2 hk hH];exact s⟩;simp[Builtin.append_,run_underlying ht,Go.sizeOf,typeInfo,hie,Builtin.lenOf,Builtin.firstCells,loadCells,loadCellsFrom,storeCells,h3]
     · have hfit:off+bs.length*i.size+(eB news).length≤cur.size:=by rw[hsz,gp,bh];omega
       refine⟨_,_,uQ (P:=P) w t ty e i ht hie g off bs.length cap cur hg a0 news.length c (eB news) (by rw[hsz,bh,gp]) (λj v hj=>hc w s j v hj) (fk _) hroom hfit,⟨rfl,rfl,rfl,by simp⟩,?_⟩;have h2:=s1.write k (by simpa using lb hk) (jf (lb hk) _) (setRow_heap w g cur (cur.toList.take (off+bs.length*i.size)++eB news++cur.toList.drop (off+bs.length*i.size+(eB news).length)).toArray e _ hg) (λj hj=>setRow_other w g j _ hj);rw[iM]at h2
       have h7:=h2.turn (q:=hY (.slice (some ⟨g,off,none⟩) (bs.length+news.length) cap) (bs++news) e) k (by simpa using lb hk) (λh hh=>by
        rw[jf (lb hk)]at hh;rw[hsz,gp,bh]at hh;refine .inr ⟨g,off,cap,_,by rw[ai],hh,by rw[ai];exact hroom,h4,?_,?_⟩
        · simp only[List.size_toArray,ai,bq,eu,Array.length_toList,bh]
          rw[hsz,gp,bh]at hfit;omega
        · simp only[aG]
          rw[ij (by simp only[bq,Array.length_toList];rw[hsz,gp,bh]at hfit;omega),pB,cu,h6,←aG,←jH]
          rw[ci (by rw[bh];exact aI _),aB (by rw[bh];exact aI _)])
       rwa [iM]at h7
   · rcases hxx with⟨rfl,hm⟩| ⟨a0,c,rfl,hc⟩
     · omega
     · have holds: ∀j u,(eB bs)[j]?=some u→w.cell? ((⟨g,off,none⟩:Addr).add j)=some u:=λj u hj=>by
        rw[q8];rw[←h6,List.getElem?_take]at hj;split at hj
        · simpa [World.cell?,hg]using hj
        · cases hj
       have hr:=run_append_grow (P:=P) w t ty e i _ ht hie hz0 ⟨g,off,none⟩ bs.length cap (eB bs) (by rw[hsz,bh,gp]) holds a0 news.length c (eB news) (by rw[hsz,bh,gp]) (λj v hj=>hc w s j v hj) (by omega) (by omega) (growslice_fits (by omega) (by rw[hby];omega));refine⟨_,_,hr,⟨rfl,rfl,rfl,by simp⟩,Sat.swap k (lb hk) (s.drew.alloc _) λh hh=>?_⟩;have hge:=grownCap_ge w (bs.length+news.length) cap e;refine .inr ⟨w.heap.size,0,_,_,by rw[ai],hh,by rw[ai];exact hge,grownCap_le_maxLen w (bs.length+news.length) cap e (by simp only[maxLen];omega),?_,?_⟩
       · simp only[Array.size_append,List.size_toArray,size_zeroCells,bh,bn]
         have:(Value.cells (.int .u8 0)).size=1:=rfl;rw[this,gp];omega
       · simp only[Array.toList_append,aG,ba]
         rw[←aG,←jH,←bh (bs++news)];exact uz
theorem TL.appendS{s x:Operand}{k:Nat}{v vx:Value}{bs news bs':List UInt8}{t e:TypeId}(hw:Want n D ops o L)
 (ho:o.op= .call {callee:= .builtin .append,args:=#[s,x],argTypes:=#[t,t]}) (hd:o.dst=some d) (hn:Nat.blt d n=true) (ht:P.underlying t=some (.slice e))
 (hi:(P.info? e).map (λi=>(i.zero,i.size,i.bytes))=some (some (.int .u8 0),1,1)) (hs:cR L s=some v) (hx:cR L x=some vx)
 (hk:Nat.blt k H.length=true) (hH:H.getD k (λ_=>True)=hY v bs e) (hsrc: ∀w,Sat H F w→Src (Sat H F) vx news.length (eB news) 1) (hb:bs.length+news.length≤140737488355328)
 (hxs:bs++news=bs') (h: ∀v',v'.oneCell'=true→TL P w0 F n ops Q l D ((d,v')::L) (H.set k (hY v' bs' e))):TL P w0 F n ops Q (o::l) D L H:=
 mT hw λa w f sm q=>by
  obtain⟨v',w',hr,s',q'⟩:=C8 (ty:=o.type) q ht hi hk hH (hsrc w q) hb;unfold Oper.wp execOp;simp only[ho,resolve,invoke,builtin,Sem.run_bind,Sem.run_pure,Result.andThen_ok,My,fX,sT,f.eval hs,f.eval hx,hr];rw[Oper.upon_value,hd];subst hxs;have one:v'.oneCell'=true:=(q'.sub_len k (by simpa using hk) (jf (lb hk) _)).2;exact h v' one _ w' (f.put (lb hn) v') (sm.trans s') q'
theorem TL.subLen{v:Value}{bs:List UInt8}{e:Nat}(k:Nat)(hk:Nat.blt k H.length=true)(hH:H.getD k (λ_=>True)=hY v bs e)
 (h:qd v bs.length→v.oneCell'=true→TL P w0 F n ops Q l D L H):TL P w0 F n ops Q l D L H:=zp (λw m=>m.sub_len k hk hH) λ⟨h1,h2⟩=>h h1 h2
end
theorem tV{v:Value}{z:Array Value}(h:v.oneCell'=true)(hz:z.size=1):Instr.fill (λi=>some (i*1,1)) z [(0,v)]=some #[v]:=by
 rw[Instr.fill,AH h];simp only[hJ,List.size_toArray,ax,aE,bn,hz,ne_eq,not_true_eq_false,decide_false,Bool.false_or];rw[if_neg (by simp)]
 have:(#[v].zipIdx.foldl (λcs (c,j)=>cs.setIfInBounds (0+j) c) z)=#[v]:=by
  match z,hz with
  | ⟨[x]⟩,_=>rfl
 simp only[bn]at this;simp only[Instr.fill];rw[this]
theorem DJ{x:Value}{bs:List UInt8}{F:Hl}(hx:IsW x bs F)(i:Nat){g T:Nat}{B:List HP}(hi:Nat.blt i B.length=true)(e:B.getD i (λ_=>True)=am g [x] T): ∀h,Dj h F→bH B h→PW (.slice (some ⟨g,0,none⟩) 1 1) [bs] (jn h F):=λh d s=>
 .inr (.inr ⟨g,0,1,[x],T,(0,0),rfl,aI _,by decide,tI i hi e h d s,λj hj=>by
  obtain rfl:j=0:=by simpa using hj
  exact⟨[x],rfl,rfl,x,rfl,hx.more d⟩⟩)
theorem DI(i n:Nat){g T:Nat}{bs:List UInt8}{B:List HP}{F:Hl}(hn:bs.length=n)(hl:n≤9223372036854775807)(hi:Nat.blt i B.length=true)(e:B.getD i (λ_=>True)=am g (eB bs) T): ∀h,Dj h F→bH B h→IsB (.slice (some ⟨g,0,none⟩) n n) bs (jn h F):=by
 subst hn;exact L9 i hl hi e
def eQ(us:List Value)(ls:List (List UInt8))(e:Nat):HP:=λh=>us.length=ls.length∧bH (List.zipWith (λu l=>hY u l e) us ls) h
abbrev m4(te e:Nat)(v:Value)(ls:List (List UInt8)):HP:=pack λus:List Value=>[own v ls.length us te 1,eQ us ls e]
theorem wU{α β γ:Type}(f:α→β→γ): ∀(us:List α) (ls:List β) (u:α) (l:β),us.length=ls.length→List.zipWith f (us++[u]) (ls++[l])=List.zipWith f us ls++[f u l]
 | [],[],_,_,_=>rfl
 | [],_::_,_,_,h=>by simp at h
 |_::_,[],_,_,h=>by simp at h
 |x::us,y::ls,u,l,h=>by simp[wU f us ls u l (by simpa using h)]
theorem vn{us:List Value}{ls:List (List UInt8)}{e:Nat}{u:Value}{l:List UInt8}{H:List HP}{h:Hl}(s:bH (eQ us ls e::hY u l e::H) h):bH (eQ (us++[u]) (ls++[l]) e::H) h:=by
 have t:=nN.2 s;refine cO t (λh' x=>?_) λ_ x=>x
 obtain⟨h1,h2,d,rfl,⟨hl,a⟩,b⟩:=x;refine⟨by simp[hl],?_⟩;rw[wU _ _ _ _ _ hl];exact(ck _ _).2 ⟨h1,h2,d,rfl,a,sd b⟩
theorem AM{e:Nat}{H:List HP}{h:Hl}(s:bH H h):bH (eQ [] [] e::H) h:=⟨em,h,Ez h,(rP h).symm,⟨rfl,trivial⟩,s⟩
theorem yE: ∀(us:List Value) (ls:List (List UInt8)) (e:Nat) (h:Hl),us.length=ls.length→bH (List.zipWith (λu l=>hY u l e) us ls) h→∀(j:Nat) (hj:j<ls.length),∃u,us[j]?=some u∧∃h1 h2,Dj h1 h2∧h=jn h1 h2∧hY u ls[j] e h1
 | [],[],_,_,_,_,j,hj=>by simp at hj
 | [],_::_,_,_,h,_,_,_=>by simp at h
 |_::_,[],_,_,h,_,_,_=>by simp at h
 |u::us,l::ls,e,h,hl,s,0,_=>by
  obtain⟨h1,h2,d,rfl,a,_⟩:=s;exact⟨u,rfl,h1,h2,d,rfl,a⟩
 |u::us,l::ls,e,h,hl,s,j+1,hj=>by
  obtain⟨h1,h2,d,rfl,_,b⟩:=s;obtain⟨u',e1,g1,g2,d',rfl,a⟩:=yE us ls e h2 (by simpa using hl) b j (by simpa using hj);refine⟨u',by simpa using e1,g1,jn h1 g2,?_,?_,a⟩
  · obtain⟨q1,q2⟩:=oI.1 d
    exact oI.2 ⟨q1.symm,d'⟩
  · rw[oA d,jU,oA (oI.1 d).2]
theorem CD{v:Value}{bs:List UInt8}{e:Nat}{h1 G:Hl}(a:hY v bs e h1)(hG:Le h1 G):IsB v bs G:=by
 rcases a with⟨x1,x2,_⟩| ⟨g,off,cap,cur,x1,x2,x3,x4,x5,x6⟩
 · exact .inl ⟨x1,x2⟩
 · refine .inr ⟨g,off,cap,cur.toList,e,(0,0),x1,x3,by simpa [maxLen]using x4,hG _ _ (by rw[x2];simp[sg]),λj hj=>?_⟩
   have e1:=congrArg (λl:List Value=>l[j]?) x6;simp only[List.getElem?_take,if_pos hj,List.getElem?_drop]at e1;rw[e1];simp[eB,List.getD_eq_getElem?_getD,hj]
theorem vG(te e:Nat){H:List HP}{h:Hl}(s:bH H h):bH (m4 te e (.slice none 0 0) []::H) h:=br (p:=λus:List Value=>[own (.slice none 0 0) 0 us te 1,eQ us [] e]) [] (iq te 1 (AM s))
theorem vI{te e:Nat}{v' u:Value}{us:List Value}{ls:List (List UInt8)}{l:List UInt8}{H:List HP}{h:Hl}(s:bH (own v' (ls.length+1) (us++[u]) te 1::eQ us ls e::hY u l e::H) h):bH (m4 te e v' (ls++[l])::H) h:=
 br (p:=λus:List Value=>[own v' (ls++[l]).length us te 1,eQ us (ls++[l]) e]) (us++[u]) (cO s (λ_ x=>by simpa using x) λ_ x=>vn x)
section
variable {P:Program} {w0:World} {F:Hl} {n:Nat} {ops:Array Oper} {Q:QQ} {D:List Deferred} {L:List (Nat×Value)} {H:List HP} {l:List Oper}
theorem TL.recsOpen{te e:Nat}{v:Value}{ls:List (List UInt8)}(h: ∀us,TL P w0 F n ops Q l D L (own v ls.length us te 1::eQ us ls e::H)):TL P w0 F n ops Q l D L (m4 te e v ls::H):=
 Nh (λ_ s=>fT s) h
abbrev Ng:= @TL.recsOpen
theorem vH{te e:Nat}{v:Value}{ls:List (List UInt8)}{h:Hl}(s:m4 te e v ls h):qd v ls.length∧v.oneCell'=true:=by
 obtain⟨us,g1,g2,d2,rfl,a1,_⟩:=s;rcases a1 with⟨q0,⟨q1,q2,_⟩| ⟨g,cap,cur,q1,_⟩⟩
 · subst q1
   have:ls=[]:=List.eq_nil_of_length_eq_zero q2;subst this;exact⟨⟨_,_,rfl⟩,rfl⟩
 · subst q1;exact⟨⟨_,_,rfl⟩,rfl⟩
theorem TL.recsLen{te e:Nat}{v:Value}{ls:List (List UInt8)}(k:Nat)(hk:Nat.blt k H.length=true)(hH:H.getD k (λ_=>True)=m4 te e v ls)(h:qd v ls.length→v.oneCell'=true→TL P w0 F n ops Q l D L H):TL P w0 F n ops Q l D L H:=
 zp (p:=qd v ls.length∧v.oneCell'=true) (λw ⟨h,d,e',x⟩=>by
  obtain⟨h1,h2,d',rfl,a,_⟩:=fl k (lb hk) x;rw[hH]at a
  exact vH a) λ⟨h1,h2⟩=>h h1 h2
end
end Leg
namespace Leg
open Go Codec Api
section
variable {P:Program} {w0:World} {F:Hl} {n:Nat} {L:List (Nat×Value)} {H:List HP}
theorem TE.ret3{fn:Func}{post:Ending→List HP→Prop}{t t' t'':Nat}{v v' v'':Value}(hr:fn.results=#[.tmp t, .tmp t', .tmp t''])(e:lk L t=some v)(e':lk L t'=some v')(e'':lk L t''=some v'')(h:post (.returned (.tuple #[v,v',v''])) H):
 TE w0 F n (bodyPost P fn (ku post w0 F)) .ret [] L H:=λa w f s m=>by
 refine bodyPost_ret (results_tmp3 hr _ _ _) f.2.1 ⟨s,H,m,?_⟩;have h1:=f.eval (x:= .tmp t) e;have h2:=f.eval (x:= .tmp t') e';have h3:=f.eval (x:= .tmp t'') e'';rw[show a.tmps.getD t undef=v from h1,show a.tmps.getD t' undef=v' from h2,show a.tmps.getD t'' undef=v'' from h3];exact h
abbrev oa:= @TE.ret3
end
theorem rV{l:List UInt8}{j:Nat}(h:j<l.length):(eB l)[j]?=some (.int .u8 (((l.getD j 0).toNat:Nat):Int)):=by simp[eB,List.getD_eq_getElem?_getD,h]
theorem Mk{a:Addr}{m c k:Nat}(hc:0<c):kK (.slice (some a) m c) 0 k= .slice (some a) k c:=by
 simp only[kK,if_neg (show ¬c=0 by omega),Option.map_some,Rw];rfl
end Leg
namespace Leg
open Go Codec Api
section
variable {P:Program} {w0:World} {F:Hl} {n:Nat} {ops:Array Oper} {Q:QQ} {D:List Deferred} {L:List (Nat×Value)} {H:List HP} {o:Oper} {l:List Oper} {d:Nat} {S:World→Prop}
end
end Leg
end

section
namespace Go.Proofs.YtjblgopghhgflaaGreat
open Go Leg Codec Api
theorem uM:(Tryz.prog.info? 61).map (·.size)=some 870:=by kernel_rfl
theorem o9:(Tryz.prog.info? 116).map (·.size)=some 875:=by kernel_rfl
theorem xg:(Tryz.prog.info? 121).map (·.size)=some 870:=by kernel_rfl
theorem MO:NM 168:=nk Tryz.func168
theorem OT:NM 179:=nk Tryz.func179
theorem kS(w:Int):
 DT 157 #[(.int .i64 (w))] T0 [] (RI (.bool (cH w)) []):=by
 refine BD 9 Tryz.func157 rfl rfl rfl λw0 F hF=>sr λ_ J1=>PS ?_
 refine nx J1 (sr λ_ J2=>P2 ?_);refine ao ?_ ?_<;>intro h4
 iterate 5 refine PS ?_
 refine nx J2 (aj (aw rfl rfl ?_));exact⟨congrArg Value.bool (by unfold cH;first| (rw[decide_eq_decide];omega)| (symm;rw[decide_eq_false_iff_not];omega)| (symm;rw[decide_eq_true_iff];omega)),rfl⟩;refine PS ?_;refine UF ?_;refine UF ?_;refine P2 ?_;refine nx J2 (aj (aw rfl rfl ?_));exact⟨congrArg Value.bool (by unfold cH;first| (rw[decide_eq_decide];omega)| (symm;rw[decide_eq_false_iff_not];omega)| (symm;rw[decide_eq_true_iff];omega)),rfl⟩
theorem mf(w:Int):
 DT 79 #[(.int .i64 (w))] T0 [] (RI (.bool (cH w)) []):=by
 refine BD 9 Tryz.func79 rfl rfl rfl λw0 F hF=>sr λ_ J1=>PS ?_
 refine nx J1 (sr λ_ J2=>P2 ?_);refine ao ?_ ?_<;>intro h4
 iterate 5 refine PS ?_
 refine nx J2 (aj (aw rfl rfl ?_));exact⟨congrArg Value.bool (by unfold cH;first| (rw[decide_eq_decide];omega)| (symm;rw[decide_eq_false_iff_not];omega)| (symm;rw[decide_eq_true_iff];omega)),rfl⟩;refine PS ?_;refine UF ?_;refine UF ?_;refine P2 ?_;refine nx J2 (aj (aw rfl rfl ?_));exact⟨congrArg Value.bool (by unfold cH;first| (rw[decide_eq_decide];omega)| (symm;rw[decide_eq_false_iff_not];omega)| (symm;rw[decide_eq_true_iff];omega)),rfl⟩
theorem iU(w:Int):
 DT 117 #[(.int .i64 (w))] T0 [] (RI (.bool (cH w)) []):=by
 refine BD 9 Tryz.func117 rfl rfl rfl λw0 F hF=>sr λ_ J1=>PS ?_
 refine nx J1 (sr λ_ J2=>P2 ?_);refine ao ?_ ?_<;>intro h4
 iterate 5 refine PS ?_
 refine nx J2 (aj (aw rfl rfl ?_));exact⟨congrArg Value.bool (by unfold cH;first| (rw[decide_eq_decide];omega)| (symm;rw[decide_eq_false_iff_not];omega)| (symm;rw[decide_eq_true_iff];omega)),rfl⟩;refine PS ?_;refine UF ?_;refine UF ?_;refine P2 ?_;refine nx J2 (aj (aw rfl rfl ?_));exact⟨congrArg Value.bool (by unfold cH;first| (rw[decide_eq_decide];omega)| (symm;rw[decide_eq_false_iff_not];omega)| (symm;rw[decide_eq_true_iff];omega)),rfl⟩
theorem sN(key n:Int):
 DT 161 #[(.int .i64 (key)),(.int .i64 (n))] T0 [] (RI (.bool (yM key n)) []):=by
 refine BD 19 Tryz.func161 rfl rfl rfl λw0 F hF=>sr λ_ J1=>PS ?_
 refine nx J1 (sr λ_ J2=>P2 ?_);refine ao ?_ ?_<;>intro h6;refine P3 ?_;refine ao ?_ ?_<;>intro h9;refine P4 ?_;refine ao ?_ ?_<;>intro h13;refine P3 ?_;refine CE GN (mj n) ID ?_;refine P2 ?_;refine nx J2 (aj (WK [] (aw rfl rfl ?_)));exact⟨congrArg Value.bool (by simp[yM,np, *]),rfl⟩;refine P2 ?_;refine UF ?_;refine UF ?_;refine P2 ?_;refine nx J2 (aj (WK [] (aw rfl rfl ?_)));exact⟨congrArg Value.bool (by simp[yM,np, *]),rfl⟩;refine P2 ?_;refine UF ?_;refine UF ?_;refine P2 ?_;refine UF ?_;refine UF ?_;refine P2 ?_;refine nx J2 (aj (WK [] (aw rfl rfl ?_)));exact⟨congrArg Value.bool (by simp[yM,np, *]),rfl⟩;refine PS ?_;refine UF ?_;refine UF ?_;refine P2 ?_;refine UF ?_;refine UF ?_;refine P2 ?_;refine UF ?_;refine UF ?_;refine P2 ?_;refine nx J2 (aj (WK [] (aw rfl rfl ?_)));exact⟨congrArg Value.bool (by simp[yM,np, *]),rfl⟩
theorem IC(b off T:Nat)(cs:List Value)(n:Int)(h:cs[off]?=some (.int .i64 n)):
 DT 163 #[(.pointer (some ⟨b,off,none⟩))] T0 [am b (cs) T] (RI (.tuple #[.int .i64 n, .pointer (some ⟨b,off,none⟩)]) [am b cs T]):=by
 refine BD 11 Tryz.func163 rfl rfl rfl λw0 F hF=>sr λ_ J1=>P2 ?_
 refine nx J1 (aa λ_ J2=>D1 0 bp ?_);refine PD 0 ?_;refine PD 1 ?_;refine ta 2 rfl (bc (r:=off) rfl nF rfl aQ rfl rfl) ?_;refine LX 3 Y3 (.int .i64 (n)) ?_ (hc:=by exact h);refine PD 4 ?_;refine PD 5 ?_;refine ta 6 rfl (bc (r:=off) rfl nF rfl aQ rfl rfl) ?_;refine PD 7 ?_;refine PD 8 ?_;exact DN (ac J2 (aj (WK [0] (jr rfl rfl rfl ⟨rfl,rfl⟩))))
theorem IQ(b off T:Nat)(cs:List Value)(n:Int)(h:cs[off+1]?=some (.int .i64 n)):
 DT 164 #[(.pointer (some ⟨b,off,none⟩))] T0 [am b (cs) T] (RI (.tuple #[.int .i64 n, .pointer (some ⟨b,off+1,none⟩)]) [am b cs T]):=by
 refine BD 11 Tryz.func164 rfl rfl rfl λw0 F hF=>sr λ_ J1=>P2 ?_
 refine nx J1 (aa λ_ J2=>D1 0 bp ?_);refine PD 0 ?_;refine PD 1 ?_;refine ta 2 rfl (bc (r:=off+1) rfl nF rfl aQ rfl rfl) ?_;refine LX 3 Y3 (.int .i64 (n)) ?_ (hc:=by exact h);refine PD 4 ?_;refine PD 5 ?_;refine ta 6 rfl (bc (r:=off+1) rfl nF rfl aQ rfl rfl) ?_;refine PD 7 ?_;refine PD 8 ?_;exact DN (ac J2 (aj (WK [0] (jr rfl rfl rfl ⟨rfl,rfl⟩))))
theorem FM(b off T tb:Nat)(cs:List Value)(g:Vector Int 5)(to':Int)(ht:0≤to'∧to'<5)(h:(cs.drop (off+2)).take 5=ints g.toList):
 DT 165 #[(.pointer (some ⟨b,off,none⟩)),(.pointer (some ⟨tb,0,none⟩))] T0 [am b (cs) T,am tb [(.int .i64 (to'))] 3] (RI (.tuple #[.int .i64 (g.toList.foldl (λs g=>gr (s+g)) 0), .pointer (some ⟨b,off+2+to'.toNat,none⟩)]) [am b cs T,am tb [.int .i64 to'] 3]):=by
 refine BD 25 Tryz.func165 rfl rfl rfl λw0 F hF=>sr λ_ J1=>P2 ?_
 refine nx J1 (sr λ_ J2=>PS ?_);refine nx J2 (aa λ_ J3=>sr λ_ J4=>P2 ?_);refine tp (bc (r:=off+2) rfl nF rfl fu rfl rfl) ?_;refine tp (aO (vs:=ints g.toList) rfl ky rfl fu rfl (RO 0) (eh g) h) ?_;refine PS ?_;refine nx J4 (aq ?_)
 refine bA (α:=(Nat)×(Int)) (λ⟨k,s⟩=>k≤5∧s=(g.toList.take k).foldl (λs g=>gr (s+g)) 0) (λ⟨k,s⟩=>[(0,(.pointer (some ⟨b,off,none⟩))),(1,(.pointer (some ⟨tb,0,none⟩))),(3,(.int .i64 0)),(4,(.pointer none)),(5,(.int .i64 (s))),(11,(.agg (ints g.toList).toArray)),(12,(.int .i64 (((k:Nat):Int))))]) (λ⟨k,s⟩=>[am b (cs) T,am tb [(.int .i64 (to'))] 3]) (λ⟨k,s⟩=>5-k) (0,0)
  ⟨aN _,rfl⟩ SB
  (λ_ s=>s) (λ⟨k,s⟩ hinv=>?_)
 obtain⟨hk,hs⟩:=hinv;refine sr λ_ J5=>PS ?_
 refine ao ?_ ?_<;>intro h13;refine nx J5 (aa λ_ J6=>CY (qx J6 (aa λ_ J7=>aq (sr λ_ J8=>tp (lM (cs:=ints g.toList) (v:=Value.int .i64 (g[k]'(by omega))) (r:=k) rfl ky Y3 rfl aQ rfl rfl (by omega) (by omega) (by omega) (kZ g (by omega))) ?_))));refine PS ?_;refine nx J8 (ae (P2 ?_));refine tp (cL (r:=(gr (s+(g[k]'(by omega))))) rfl rfl rfl rfl) ?_;refine PS ?_;refine au (ag (ac J7 (ae (AD ?_))));refine PS ?_;refine au ?_
 exact aK ((k+1,(gr (s+(g[k]'(by omega))))):(Nat)×(Int)) ⟨by omega,by rw[cB (by simp;omega),fj,←hs];simp⟩ (by show 5- (k+1)<5-k;omega)
  SB
  (λ_ s=>s)
 refine nx J5 (aa λ_ J9=>CN (aX (aA (aA (bu (ac J3 (aa λ_ J10=>D1 1 bp ?_)))))));refine PD 0 ?_;refine PD 1 ?_;refine LX 2 Y3 (.int .i64 (to')) ?_ (hc:=by exact rfl);refine PD 3 ?_;refine ta 4 rfl (bc (r:=off+2) rfl nF rfl fu rfl rfl) ?_;refine IY 5 (off+2+(to').toNat) ky aQ ?_;refine PD 6 ?_;refine PD 7 ?_;refine DN (ac J10 (aj (WK [0,0] (jr rfl rfl rfl ?_))));exact⟨by rw[hs,aB (by simp;omega)],rfl⟩
theorem BE(x:RowT)(key n:Int)(hk:0≤key∧key<4)(hn:1≤n∧n≤1099511627776):
 DT 162 #[(.agg (ints x.flat).toArray),(.int .i64 (key)),(.int .i64 (n)),(.func (.func 163) #[] #[])] T0 [] (RI (.tuple #[.agg (ints (ld x key n (dX x key).inn {dX x key with inn:=gr ((dX x key).inn+n)}).1.flat).toArray, .int .i64 (ld x key n (dX x key).inn {dX x key with inn:=gr ((dX x key).inn+n)}).2]) []):=by
 refine BD 36 Tryz.func162 rfl rfl rfl λw0 F hF=>?_
 have hkb:np key=true:=decide_eq_true hk;have hcell:dX x key=x.cells[key.toNat]'(by omega):=by rw[dX,dif_pos hkb]
 refine sr λ_ J1=>XY (ints x.flat) λb4=>?_
 refine XZ uB (ints RowT.zero.flat) λb8=>?_
 refine PS ?_;refine nx J1 (sr λ_ J2=>P2 ?_);refine FA 1 dV mn ?_;refine IX (1+key.toNat*7) Ch fY ?_;refine TL.callRv (ab rfl) rfl rfl rfl rfl O6 rfl (IC b4 (1+key.toNat*7) 60 (ints x.flat) x.cells[key.toNat].inn (wC x (key.toNat*7) (by omega) (by omega) (oX bD x.cells (i:=key.toNat) 0 (by omega) (by omega) (by decide) (sV _ rfl)))) (λ_ s=>aD [1] rfl s) (λ_ _ _=>trivial) (λvR HR hR=>?_);obtain⟨rfl,rfl⟩:=hR;refine P4 ?_;refine PS ?_;refine nx J2 (aa λ_ J3=>sr λ_ J4=>P2 ?_);refine tp (jC (r:=(1099511627776-n)) rfl rfl rfl (bX (by omega) (by omega))) ?_;refine PS ?_;refine ao ?_ ?_<;>intro h23;refine nx J4 (CY (sr λ_ J5=>BV ((ints RowT.zero.flat).toArray) ?_));refine SW 1 bg ah ?_;refine PS ?_;refine nx J5 (aj (af (RT 1 [] dV bg (ah _) ?_)));exact⟨by rw[ld,hcell,if_pos h23],rfl⟩;refine nx J4 (CN (qx J3 (sr λ_ J6=>P2 ?_)));refine LT 0 Y3 (.int .i64 ((x.cells[key.toNat]'(by omega)).inn)) ?_ (hc:=by exact wC x (key.toNat*7) (by omega) (by omega) (oX bD x.cells (i:=key.toNat) 0 (by omega) (by omega) (by decide) (sV (x.cells[key.toNat]'(by omega)) rfl)));refine PS ?_;refine tp (cL (r:=(gr (((x.cells[key.toNat]'(by omega)).inn)+n))) rfl rfl rfl rfl) ?_;refine PS ?_
 refine bI (i:=0) (ab rfl) rfl rfl rfl rfl rfl aQ rfl rfl (LB (ah _)) (Q7 x (key.toNat*7) (by omega) (by omega) (Jf bD x.cells (i:=key.toNat) 0 (by omega) (by omega) (by decide) (CellT.set_inn _ rfl _))) rfl (nx J6 (sr λ_ J7=>FA 0 dV aQ ?_));refine LT 0 Y3 (.int .i64 (x.version)) ?_ (hc:=by exact ce _ rfl);refine tp (cL (r:=(gr (x.version+1))) rfl rfl rfl rfl) ?_;refine FA 0 dV aQ ?_;refine bI (i:=0) (ab rfl) rfl rfl rfl rfl rfl aQ rfl rfl (LB (ah _)) (yQ _ rfl _) rfl (nx J7 (sr λ_ J8=>LW 0 dV bg ah ?_));refine SW 1 bg ah ?_;refine PS ?_;refine nx J8 (aj (RT 1 [] dV bg (ah _) ?_));refine⟨?_,rfl⟩;rw[ld,hcell,if_neg h23,mi,dif_pos hkb]
theorem BF(x:RowT)(key n:Int)(hk:0≤key∧key<4)(hn:1≤n∧n≤1099511627776):
 DT 162 #[(.agg (ints x.flat).toArray),(.int .i64 (key)),(.int .i64 (n)),(.func (.func 164) #[] #[])] T0 [] (RI (.tuple #[.agg (ints (ld x key n (dX x key).out {dX x key with out:=gr ((dX x key).out+n)}).1.flat).toArray, .int .i64 (ld x key n (dX x key).out {dX x key with out:=gr ((dX x key).out+n)}).2]) []):=by
 refine BD 36 Tryz.func162 rfl rfl rfl λw0 F hF=>?_
 have hkb:np key=true:=decide_eq_true hk;have hcell:dX x key=x.cells[key.toNat]'(by omega):=by rw[dX,dif_pos hkb]
 refine sr λ_ J1=>XY (ints x.flat) λb4=>?_
 refine XZ uB (ints RowT.zero.flat) λb8=>?_
 refine PS ?_;refine nx J1 (sr λ_ J2=>P2 ?_);refine FA 1 dV mn ?_;refine IX (1+key.toNat*7) Ch fY ?_;refine TL.callRv (ab rfl) rfl rfl rfl rfl O5 rfl (IQ b4 (1+key.toNat*7) 60 (ints x.flat) x.cells[key.toNat].out (wC x (key.toNat*7+1) (by omega) (by omega) (oX bD x.cells (i:=key.toNat) 1 (by omega) (by omega) (by decide) (sU _ rfl)))) (λ_ s=>aD [1] rfl s) (λ_ _ _=>trivial) (λvR HR hR=>?_);obtain⟨rfl,rfl⟩:=hR;refine P4 ?_;refine PS ?_;refine nx J2 (aa λ_ J3=>sr λ_ J4=>P2 ?_);refine tp (jC (r:=(1099511627776-n)) rfl rfl rfl (bX (by omega) (by omega))) ?_;refine PS ?_;refine ao ?_ ?_<;>intro h23;refine nx J4 (CY (sr λ_ J5=>BV ((ints RowT.zero.flat).toArray) ?_));refine SW 1 bg ah ?_;refine PS ?_;refine nx J5 (aj (af (RT 1 [] dV bg (ah _) ?_)));exact⟨by rw[ld,hcell,if_pos h23],rfl⟩;refine nx J4 (CN (qx J3 (sr λ_ J6=>P2 ?_)));refine LT 0 Y3 (.int .i64 ((x.cells[key.toNat]'(by omega)).out)) ?_ (hc:=by exact wC x (key.toNat*7+1) (by omega) (by omega) (oX bD x.cells (i:=key.toNat) 1 (by omega) (by omega) (by decide) (sU (x.cells[key.toNat]'(by omega)) rfl)));refine PS ?_;refine tp (cL (r:=(gr (((x.cells[key.toNat]'(by omega)).out)+n))) rfl rfl rfl rfl) ?_;refine PS ?_
 refine bI (i:=0) (ab rfl) rfl rfl rfl rfl rfl aQ rfl rfl (LB (ah _)) (Q7 x (key.toNat*7+1) (by omega) (by omega) (Jf bD x.cells (i:=key.toNat) 1 (by omega) (by omega) (by decide) (CellT.set_out _ rfl _))) rfl (nx J6 (sr λ_ J7=>FA 0 dV aQ ?_));refine LT 0 Y3 (.int .i64 (x.version)) ?_ (hc:=by exact ce _ rfl);refine tp (cL (r:=(gr (x.version+1))) rfl rfl rfl rfl) ?_;refine FA 0 dV aQ ?_;refine bI (i:=0) (ab rfl) rfl rfl rfl rfl rfl aQ rfl rfl (LB (ah _)) (yQ _ rfl _) rfl (nx J7 (sr λ_ J8=>LW 0 dV bg ah ?_));refine SW 1 bg ah ?_;refine PS ?_;refine nx J8 (aj (RT 1 [] dV bg (ah _) ?_));refine⟨?_,rfl⟩;rw[ld,hcell,if_neg h23,mi,dif_pos hkb]
theorem za(x:RowT)(key n:Int)(hk:0≤key∧key<4)(hn:1≤n∧n≤1099511627776)(tb:Nat)(to':Int)(ht:0≤to'∧to'<5):
 DT 162 #[(.agg (ints x.flat).toArray),(.int .i64 (key)),(.int .i64 (n)),(.func (.func 165) #[] #[(.pointer (some ⟨tb,0,none⟩))])] T0 [am tb [(.int .i64 (to'))] 3] (RI (.tuple #[.agg (ints (ld x key n (Js (dX x key)) (yk (dX x key) to' (gr (mm (dX x key) to'+n)))).1.flat).toArray, .int .i64 (ld x key n (Js (dX x key)) (yk (dX x key) to' (gr (mm (dX x key) to'+n)))).2]) [am tb [.int .i64 to'] 3]):=by
 refine Leg.Does.body (vs:=[(.agg (ints x.flat).toArray),(.int .i64 (key)),(.int .i64 (n)),(.func (.func 165) #[] #[(.pointer (some ⟨tb,0,none⟩))])]) (n:=36) Tryz.func162 rfl rfl rfl (λw0 F hF=>?_);have hkb:np key=true:=decide_eq_true hk;have hcell:dX x key=x.cells[key.toNat]'(by omega):=by rw[dX,dif_pos hkb]
 have htb:cH to'=true:=decide_eq_true ht;refine sr λ_ J1=>?_
 refine TL.box (ab rfl) rfl rfl rfl rfl (λb4=>?_);change TL _ _ _ _ _ _ _ _ _ [am b4 (ints x.flat) 60,am tb [(.int .i64 (to'))] 3];refine rc (ab rfl) rfl rfl rfl uB (λb8=>?_);change TL _ _ _ _ _ _ _ _ _ [am b8 (ints RowT.zero.flat) 60,am b4 (ints x.flat) 60,am tb [(.int .i64 (to'))] 3];refine qq ?_;refine nx J1 ?_;refine sr λ_ J2=>?_
 refine mv ?_;refine mv ?_;refine tp (bc (r:=1) rfl dV rfl mn rfl rfl) ?_;refine tp (e9 (r:=1+key.toNat*7) rfl Ch fY rfl rfl (by omega) (by omega) (by omega)) ?_;refine TL.callRv (ab rfl) rfl rfl rfl rfl O4 rfl (FM b4 (1+key.toNat*7) 60 tb (ints x.flat) x.cells[key.toNat].given to' ht (Eu x (key.toNat*7+2) (by omega) (by omega) (ln bD x.cells (i:=key.toNat) 2 (by omega) (by omega) (by decide) (CellT.sub_given (x.cells[key.toNat]'(by omega)) 0 rfl (by decide) (whole (eh ((x.cells[key.toNat]'(by omega)).given))))))) (λ_ s=>aD [1,1] rfl s) (λ_ _ _=>trivial) (λvR HR hR=>?_);obtain⟨rfl,rfl⟩:=hR;refine mv ?_;refine tp (mJ (vs:=[(.int .i64 ((Js (x.cells[key.toNat]'(by omega))))),(.pointer (some ⟨b4,1+key.toNat*7+2+to'.toNat,none⟩))]) rfl rfl rfl) ?_;refine tp (mJ (vs:=[(.int .i64 ((Js (x.cells[key.toNat]'(by omega))))),(.pointer (some ⟨b4,1+key.toNat*7+2+to'.toNat,none⟩))]) rfl rfl rfl) ?_;refine qq ?_;refine qq ?_;refine nx J2 ?_;refine aa λ_ J3=>?_
 refine sr λ_ J4=>?_
 refine mv ?_;refine mv ?_;refine tp (jC (r:=(1099511627776-n)) rfl rfl rfl (bX (by omega) (by omega))) ?_;refine tp (PV.gtr rfl rfl rfl) ?_;refine ao (λh23=>?_) (λh23=>?_);refine nx J4 ?_;refine oh rfl ?_;refine sr λ_ J5=>?_
 refine tp (kP (cells:=(ints RowT.zero.flat).toArray) rfl rfl (by as_aux_lemma=>kernel_rfl)) ?_;refine bO (vs:=ints RowT.zero.flat) (i:=2) (ab rfl) rfl rfl rfl rfl rfl (by rw[(ah RowT.zero)];exact bg) (bF _) rfl rfl (by have h0:=(ah RowT.zero);have h1:=(ah RowT.zero);omega) (cy ((ah RowT.zero).trans (ah RowT.zero).symm)) rfl ?_;refine qq ?_;refine nx J5 ?_;refine aj ?_;refine af ?_;refine mG (H':=[am tb [(.int .i64 (to'))] 3]) rfl rfl rfl dV rfl bg (fE 2 rfl rfl) (ah RowT.zero) (λ_ s=>ak [1] rfl s) ?_;exact⟨by rw[ld,hcell,if_pos h23],rfl⟩;refine nx J4 ?_;refine Hb rfl ?_;refine aU ?_;refine ac J3 ?_;refine sr λ_ J6=>?_
 refine mv ?_;refine tp (gH rfl rfl) ?_;refine tp (iI (v:=(.int .i64 ((((x.cells[key.toNat]'(by omega)).given)[to'.toNat]'(by omega))))) rfl Y3 rfl rfl (fE 0 rfl rfl) (wC x (key.toNat*7+2+to'.toNat) (by omega) (by omega) (oX bD x.cells (i:=key.toNat) (2+to'.toNat) (by omega) (by omega) (by omega) (P5 (x.cells[key.toNat]'(by omega)) (to'.toNat) (by omega) (by omega) (kZ ((x.cells[key.toNat]'(by omega)).given) (by omega)))))) ?_;refine mv ?_;refine tp (cL (r:=(gr ((((x.cells[key.toNat]'(by omega)).given)[to'.toNat]'(by omega))+n))) rfl rfl rfl rfl) ?_;refine tp (gH rfl rfl) ?_;refine bI (i:=0) (ab rfl) rfl rfl rfl rfl rfl aQ rfl rfl (by have h0:=(ah x);omega) (Q7 x (key.toNat*7+2+to'.toNat) (by omega) (by omega) (Jf bD x.cells (i:=key.toNat) (2+to'.toNat) (by omega) (by omega) (by omega) (CellT.st_given (x.cells[key.toNat]'(by omega)) (to'.toNat) (by omega) (by omega) (zJ ((x.cells[key.toNat]'(by omega)).given) (by omega) _)))) rfl ?_;refine nx J6 ?_;refine sr λ_ J7=>?_
 refine tp (bc (r:=0) rfl dV rfl aQ rfl rfl) ?_;refine tp (iI (v:=(.int .i64 (x.version))) rfl Y3 rfl rfl (fE 0 rfl rfl) (ce (RowT.mk x.version (x.cells.set key.toNat (CellT.mk ((x.cells[key.toNat]'(by omega)).inn) ((x.cells[key.toNat]'(by omega)).out) (((x.cells[key.toNat]'(by omega)).given).set to'.toNat (gr ((((x.cells[key.toNat]'(by omega)).given)[to'.toNat]'(by omega))+n)) (by omega))) (by omega)) x.heir x.left) rfl)) ?_;refine tp (cL (r:=(gr (x.version+1))) rfl rfl rfl rfl) ?_;refine tp (bc (r:=0) rfl dV rfl aQ rfl rfl) ?_;refine bI (i:=0) (ab rfl) rfl rfl rfl rfl rfl aQ rfl rfl (by have h0:=(ah (RowT.mk x.version (x.cells.set key.toNat (CellT.mk ((x.cells[key.toNat]'(by omega)).inn) ((x.cells[key.toNat]'(by omega)).out) (((x.cells[key.toNat]'(by omega)).given).set to'.toNat (gr ((((x.cells[key.toNat]'(by omega)).given)[to'.toNat]'(by omega))+n)) (by omega))) (by omega)) x.heir x.left));omega) (yQ (RowT.mk x.version (x.cells.set key.toNat (CellT.mk ((x.cells[key.toNat]'(by omega)).inn) ((x.cells[key.toNat]'(by omega)).out) (((x.cells[key.toNat]'(by omega)).given).set to'.toNat (gr ((((x.cells[key.toNat]'(by omega)).given)[to'.toNat]'(by omega))+n)) (by omega))) (by omega)) x.heir x.left) rfl _) rfl ?_;refine nx J7 ?_;refine sr λ_ J8=>?_
 refine tp (aO (vs:=ints (RowT.mk (gr (x.version+1)) (x.cells.set key.toNat (CellT.mk ((x.cells[key.toNat]'(by omega)).inn) ((x.cells[key.toNat]'(by omega)).out) (((x.cells[key.toNat]'(by omega)).given).set to'.toNat (gr ((((x.cells[key.toNat]'(by omega)).given)[to'.toNat]'(by omega))+n)) (by omega))) (by omega)) x.heir x.left).flat) rfl dV rfl bg rfl (fE 0 rfl rfl) (ah (RowT.mk (gr (x.version+1)) (x.cells.set key.toNat (CellT.mk ((x.cells[key.toNat]'(by omega)).inn) ((x.cells[key.toNat]'(by omega)).out) (((x.cells[key.toNat]'(by omega)).given).set to'.toNat (gr ((((x.cells[key.toNat]'(by omega)).given)[to'.toNat]'(by omega))+n)) (by omega))) (by omega)) x.heir x.left)) (whole (ah (RowT.mk (gr (x.version+1)) (x.cells.set key.toNat (CellT.mk ((x.cells[key.toNat]'(by omega)).inn) ((x.cells[key.toNat]'(by omega)).out) (((x.cells[key.toNat]'(by omega)).given).set to'.toNat (gr ((((x.cells[key.toNat]'(by omega)).given)[to'.toNat]'(by omega))+n)) (by omega))) (by omega)) x.heir x.left)))) ?_
 refine bO (vs:=ints (RowT.mk (gr (x.version+1)) (x.cells.set key.toNat (CellT.mk ((x.cells[key.toNat]'(by omega)).inn) ((x.cells[key.toNat]'(by omega)).out) (((x.cells[key.toNat]'(by omega)).given).set to'.toNat (gr ((((x.cells[key.toNat]'(by omega)).given)[to'.toNat]'(by omega))+n)) (by omega))) (by omega)) x.heir x.left).flat) (i:=2) (ab rfl) rfl rfl rfl rfl rfl (by rw[(ah (RowT.mk (gr (x.version+1)) (x.cells.set key.toNat (CellT.mk ((x.cells[key.toNat]'(by omega)).inn) ((x.cells[key.toNat]'(by omega)).out) (((x.cells[key.toNat]'(by omega)).given).set to'.toNat (gr ((((x.cells[key.toNat]'(by omega)).given)[to'.toNat]'(by omega))+n)) (by omega))) (by omega)) x.heir x.left))];exact bg) (bF _) rfl rfl (by have h0:=(ah RowT.zero);have h1:=(ah (RowT.mk (gr (x.version+1)) (x.cells.set key.toNat (CellT.mk ((x.cells[key.toNat]'(by omega)).inn) ((x.cells[key.toNat]'(by omega)).out) (((x.cells[key.toNat]'(by omega)).given).set to'.toNat (gr ((((x.cells[key.toNat]'(by omega)).given)[to'.toNat]'(by omega))+n)) (by omega))) (by omega)) x.heir x.left));omega) (cy ((ah RowT.zero).trans (ah (RowT.mk (gr (x.version+1)) (x.cells.set key.toNat (CellT.mk ((x.cells[key.toNat]'(by omega)).inn) ((x.cells[key.toNat]'(by omega)).out) (((x.cells[key.toNat]'(by omega)).given).set to'.toNat (gr ((((x.cells[key.toNat]'(by omega)).given)[to'.toNat]'(by omega))+n)) (by omega))) (by omega)) x.heir x.left)).symm)) rfl ?_;refine qq ?_;refine nx J8 ?_;refine aj ?_
 refine mG (H':=[am tb [(.int .i64 (to'))] 3]) rfl rfl rfl dV rfl bg (fE 2 rfl rfl) (ah (RowT.mk (gr (x.version+1)) (x.cells.set key.toNat (CellT.mk ((x.cells[key.toNat]'(by omega)).inn) ((x.cells[key.toNat]'(by omega)).out) (((x.cells[key.toNat]'(by omega)).given).set to'.toNat (gr ((((x.cells[key.toNat]'(by omega)).given)[to'.toNat]'(by omega))+n)) (by omega))) (by omega)) x.heir x.left)) (λ_ s=>ak [1] rfl s) ?_;refine⟨?_,rfl⟩;rw[ld,hcell,if_neg h23,mi,dif_pos hkb];simp[yk,mm,htb]
theorem Db(x:RowT)(key n:Int):
 DT 133 #[(.agg (ints x.flat).toArray),(.int .i64 (key)),(.int .i64 (n))] T0 [] (RI (.tuple #[.agg (ints (pL x key n).1.flat).toArray, .int .i64 (pL x key n).2]) []):=by
 refine BD 19 Tryz.func133 rfl rfl rfl λw0 F hF=>sr λ_ J1=>XY (ints x.flat) λb3=>?_
 refine XZ uB (ints RowT.zero.flat) λb6=>?_
 refine PS ?_;refine nx J1 (aa λ_ J2=>sr λ_ J3=>P2 ?_);refine CE JU (sN key n) ID ?_;refine bf ?_ ?_<;>intro h10;have hq:=h10;unfold yM np JM at hq;simp only[av,decide_eq_true_iff]at hq;have hk:0≤key∧key<4:=hq.1.1;have hn:1≤n∧n≤1099511627776:=⟨hq.1.2,hq.2.2⟩;refine PS ?_;refine nx J3 (CN (qx J2 (sr λ_ J4=>LW 1 dV bg ah ?_)));refine P2 ?_;refine CE JT (BE x key n hk hn) ID ?_;refine P2 ?_;refine SW 0 bg ah ?_;refine PS ?_;refine nx J4 (aj (RT 0 [] dV bg (ah _) ?_));exact⟨by simp[pL, *],rfl⟩;refine PS ?_;refine nx J3 (CY (sr λ_ J5=>BV ((ints RowT.zero.flat).toArray) ?_));refine SW 0 bg ah ?_;refine PS ?_;refine nx J5 (aj (af (RT 0 [] dV bg (ah _) ?_)));exact⟨by simp[pL, *],rfl⟩
theorem Dc(x:RowT)(key n:Int):
 DT 134 #[(.agg (ints x.flat).toArray),(.int .i64 (key)),(.int .i64 (n))] T0 [] (RI (.tuple #[.agg (ints (pM x key n).1.flat).toArray, .int .i64 (pM x key n).2]) []):=by
 refine BD 19 Tryz.func134 rfl rfl rfl λw0 F hF=>sr λ_ J1=>XY (ints x.flat) λb3=>?_
 refine XZ uB (ints RowT.zero.flat) λb6=>?_
 refine PS ?_;refine nx J1 (aa λ_ J2=>sr λ_ J3=>P2 ?_);refine CE JU (sN key n) ID ?_;refine bf ?_ ?_<;>intro h10;have hq:=h10;unfold yM np JM at hq;simp only[av,decide_eq_true_iff]at hq;have hk:0≤key∧key<4:=hq.1.1;have hn:1≤n∧n≤1099511627776:=⟨hq.1.2,hq.2.2⟩;refine PS ?_;refine nx J3 (CN (qx J2 (sr λ_ J4=>LW 1 dV bg ah ?_)));refine P2 ?_;refine CE JT (BF x key n hk hn) ID ?_;refine P2 ?_;refine SW 0 bg ah ?_;refine PS ?_;refine nx J4 (aj (RT 0 [] dV bg (ah _) ?_));exact⟨by simp[pM, *],rfl⟩;refine PS ?_;refine nx J3 (CY (sr λ_ J5=>BV ((ints RowT.zero.flat).toArray) ?_));refine SW 0 bg ah ?_;refine PS ?_;refine nx J5 (aj (af (RT 0 [] dV bg (ah _) ?_)));exact⟨by simp[pM, *],rfl⟩
theorem Bk(x:RowT)(key n to':Int):
 DT 135 #[(.agg (ints x.flat).toArray),(.int .i64 (key)),(.int .i64 (n)),(.int .i64 (to'))] T0 [] (RI (.tuple #[.agg (ints (mh x key n to').1.flat).toArray, .int .i64 (mh x key n to').2]) []):=by
 refine BD 27 Tryz.func135 rfl rfl rfl λw0 F hF=>sr λ_ J1=>XY (ints x.flat) λb4=>?_
 refine XB λb7=>?_
 refine XZ uB (ints RowT.zero.flat) λb8=>?_
 refine PS ?_;refine nx J1 (aa λ_ J2=>sr λ_ J3=>LA 1 Y3 ?_);refine CE GI (kS to') ID ?_;refine bf ?_ ?_<;>intro h11;refine PS ?_;refine P3 ?_;refine CE JU (sN key n) ID ?_;refine bf ?_ ?_<;>intro h16;have hq:=h16;unfold yM np JM at hq;simp only[av,decide_eq_true_iff]at hq;have hk:0≤key∧key<4:=hq.1.1;have hn:1≤n∧n≤1099511627776:=⟨hq.1.2,hq.2.2⟩;have ht:0≤to'∧to'<5:=of_decide_eq_true h11;refine PS ?_;refine PS ?_;refine nx J3 (CN (qx J2 (sr λ_ J4=>LW 2 dV bg ah ?_)));refine P2 ?_;refine tp (Rk rfl rfl) ?_;refine CE JT (za x key n hk hn b7 to' ht) (SM [1]) ?_;refine P2 ?_;refine SW 1 bg ah ?_;refine PS ?_;refine nx J4 (aj (RT 1 [] dV bg (ah _) ?_));exact⟨by simp[mh, *],rfl⟩;refine PS ?_;refine PS ?_;refine nx J3 (CY (sr λ_ J5=>BV ((ints RowT.zero.flat).toArray) ?_));refine SW 0 bg ah ?_;refine PS ?_;refine nx J5 (aj (af (RT 0 [] dV bg (ah _) ?_)));exact⟨by simp[mh, *],rfl⟩;refine PS ?_;refine PS ?_
 iterate 4 refine UT ?_
 refine PS ?_;refine nx J3 (CY (sr λ_ J6=>BV ((ints RowT.zero.flat).toArray) ?_));refine SW 0 bg ah ?_;refine PS ?_;refine nx J6 (aj (af (RT 0 [] dV bg (ah _) ?_)));exact⟨by simp[mh, *],rfl⟩
theorem Da(x:RowT)(who:Int):
 DT 115 #[(.agg (ints x.flat).toArray),(.int .i64 (who))] T0 [] (dB (λr' H=>∃u,r'=u∧H=[own u (gM x who).length (ints (gM x who)) 3 1])):=by
 refine BD 27 Tryz.func115 rfl rfl rfl λw0 F hF=>sr λ_ J1=>XY (ints x.flat) λb2=>?_
 refine PS ?_;refine nx J1 (sr λ_ J2=>PS ?_);refine nx J2 (aa λ_ J3=>sr λ_ J4=>FA 29 dV fu ?_);refine tp (aO (vs:=ints x.heir.toList) rfl ky rfl fu rfl (RO 0) (eh x.heir) (Q6 x 0 rfl (by decide) (whole (eh x.heir)))) ?_;refine PS ?_;refine nx J4 (aq ?_)
 refine bA (α:=(Nat)×(Value)) (λ⟨k,u⟩=>k≤5∧u.oneCell'=true) (λ⟨k,u⟩=>[(1,(.int .i64 (who))),(4,(.slice none 0 0)),(5,u),(9,(.agg (ints x.heir.toList).toArray)),(10,(.int .i64 (((k:Nat):Int))))]) (λ⟨k,u⟩=>[own u ((jd x who k).length) (ints (jd x who k)) 3 1]) (λ⟨k,u⟩=>5-k) (0,(.slice none 0 0))
  ⟨aN _,rfl⟩ SB
  (λ_ s=>iq 3 1 (ak [] rfl s)) (λ⟨k,u⟩ hinv=>?_)
 obtain⟨hk,hu⟩:=hinv;have hol:=H8 x who k;refine sr λ_ J5=>PS ?_
 refine ao ?_ ?_<;>intro h11;refine nx J5 (aa λ_ J6=>CY (qx J6 (aa λ_ J7=>aq (sr λ_ J8=>PS ?_))));refine tp (lM (cs:=ints x.heir.toList) (v:=Value.int .i64 (x.heir[k]'(by omega))) (r:=k) rfl ky Y3 rfl aQ rfl rfl (by omega) (by omega) (by omega) (kZ x.heir (by omega))) ?_;refine P2 ?_;refine nx J8 (sr λ_ J9=>P3 ?_);refine ao ?_ ?_<;>intro h16;refine PS ?_;refine UT ?_;refine UT ?_;refine PS ?_;refine nx J9 (CY (ae (P2 ?_)));refine aW (cells:=#[(.int .i64 (((k:Nat):Int)))]) (ab rfl) rfl rfl rfl kM sE rfl rfl rfl (by as_aux_lemma=>kernel_rfl) (λb23=>cS (k:=1) (news:=[(.int .i64 (((k:Nat):Int)))]) (nn':=(jd x who k).length+1) (xs':=ints (jd x who k)++[(.int .i64 (((k:Nat):Int)))]) (ab rfl) rfl rfl rfl kM sE rfl rfl rfl rfl rfl rfl (λ_ _=>kj rfl (RO 0) rfl) (by simp[Value.oneCell']) (by simp only[maxLen];omega) (by omega) (by simp) (by simp) (λv24 ov24=>PS ?_));refine au (ag (ac J7 (ae (AD ?_))));refine PS ?_;refine au ?_
 exact aK ((k+1,v24):(Nat)×(Value)) ⟨by omega,ov24⟩ (by show 5- (k+1)<5-k;omega)
  SB
  (λ_ s=>by
   show bH [own v24 (jd x who (k+1)).length (ints (jd x who (k+1))) 3 1] _;rw[show jd x who (k+1)=jd x who k++[((k:Nat):Int)]by rw[sq,if_pos (by rw[xQ x who (by omega)];simp;omega)],ai,eJ]
   exact ak [1] rfl s)
 refine P3 ?_;refine ao ?_ ?_<;>intro h19;refine PS ?_;refine nx J9 (CY (ae (P2 ?_)));refine aW (cells:=#[(.int .i64 (((k:Nat):Int)))]) (ab rfl) rfl rfl rfl kM sE rfl rfl rfl (by as_aux_lemma=>kernel_rfl) (λb23=>cS (k:=1) (news:=[(.int .i64 (((k:Nat):Int)))]) (nn':=(jd x who k).length+1) (xs':=ints (jd x who k)++[(.int .i64 (((k:Nat):Int)))]) (ab rfl) rfl rfl rfl kM sE rfl rfl rfl rfl rfl rfl (λ_ _=>kj rfl (RO 0) rfl) (by simp[Value.oneCell']) (by simp only[maxLen];omega) (by omega) (by simp) (by simp) (λv24 ov24=>PS ?_));refine au (ag (ac J7 (ae (AD ?_))));refine PS ?_;refine au ?_
 exact aK ((k+1,v24):(Nat)×(Value)) ⟨by omega,ov24⟩ (by show 5- (k+1)<5-k;omega)
  SB
  (λ_ s=>by
   show bH [own v24 (jd x who (k+1)).length (ints (jd x who (k+1))) 3 1] _;rw[show jd x who (k+1)=jd x who k++[((k:Nat):Int)]by rw[sq,if_pos (by rw[xQ x who (by omega)];simp;omega)],ai,eJ]
   exact ak [1] rfl s)
 refine PS ?_;refine nx J9 (CN (aU (ag (ac J7 (ae (AD ?_))))));refine PS ?_;refine au ?_
 exact aK ((k+1,u):(Nat)×(Value)) ⟨by omega,hu⟩ (by show 5- (k+1)<5-k;omega)
  SB
  (λ_ s=>by
   show bH [own u (jd x who (k+1)).length (ints (jd x who (k+1))) 3 1] _;rw[show jd x who (k+1)=jd x who k by rw[sq,if_neg (by rw[xQ x who (by omega)];simp;omega),aR]]
   exact ak [0] rfl s)
 refine nx J5 (aa λ_ J10=>CN (aX (aA (aA (bu (ac J3 (sr λ_ J11=>P2 ?_)))))));refine nx J11 (aj (WK [0] (aw rfl rfl ?_)));obtain rfl:k=5:=by omega
 exact⟨u,rfl,rfl⟩
theorem Bl(x:RowT)(who of' key:Int):
 DT 116 #[(.agg (ints x.flat).toArray),(.int .i64 (who)),(.int .i64 (of')),(.int .i64 (key))] T0 [] (RI (.tuple #[.agg (ints (kT x who of' key).1.flat).toArray, .int .i64 (kT x who of' key).2]) []):=by
 refine BD 53 Tryz.func116 rfl rfl rfl λw0 F hF=>sr λ_ J1=>XY (ints x.flat) λb4=>?_
 refine XZ La (ints CellT.zero.flat) λb8=>?_
 refine PS ?_;refine nx J1 (aa λ_ J2=>sr λ_ J3=>PS ?_);refine CE GI (kS who) ID ?_;refine bf ?_ ?_<;>intro h11;refine PS ?_;refine P2 ?_;refine CE GI (kS of') ID ?_;refine bf ?_ ?_<;>intro h15;refine PS ?_;refine P4 ?_;refine ao ?_ ?_<;>intro h20;have hkb:np key=false:=decide_eq_false (by omega);refine P2 ?_;refine UT ?_;refine UT ?_;refine PS ?_;refine nx J3 (CY (sr λ_ J4=>BV ((ints CellT.zero.flat).toArray) ?_));refine SW 0 fY bz ?_;refine PS ?_;refine nx J4 (aj (af (RT 0 [] nF fY (bz _) ?_)));exact⟨by simp[kT, *],rfl⟩;refine P4 ?_;refine ao ?_ ?_<;>intro h24;have hkb:np key=false:=decide_eq_false (by omega);refine PS ?_;refine nx J3 (CY (sr λ_ J5=>BV ((ints CellT.zero.flat).toArray) ?_));refine SW 0 fY bz ?_;refine PS ?_;refine nx J5 (aj (af (RT 0 [] nF fY (bz _) ?_)));exact⟨by simp[kT, *],rfl⟩;have hw:cH who=true:=by simpa using h11
 have ho:cH of'=true:=by simpa using h15
 have hw2:0≤who∧who<5:=of_decide_eq_true hw;have ho2:0≤of'∧of'<5:=of_decide_eq_true ho;have hkb:np key=true:=decide_eq_true ⟨by omega,by omega⟩;have e1:fh x of'=x.heir[of'.toNat]'(by omega):=by rw[fh,dif_pos ho]
 have e2:FF x of' key=(x.left[of'.toNat]'(by omega))[key.toNat]'(by omega):=by rw[FF,dif_pos ⟨ho,hkb⟩]
 have e3:dX x key=x.cells[key.toNat]'(by omega):=by rw[dX,dif_pos hkb]
 refine PS ?_;refine nx J3 (CN (qx J2 (aa λ_ J6=>sr λ_ J7=>P3 ?_)));refine ao ?_ ?_<;>intro h29;refine nx J7 (CY (aa λ_ J8=>D1 1 bp ?_));refine PD 0 ?_;refine FD 1 1 dV mn ?_;refine IY 2 (1+key.toNat*7) Ch fY ?_;refine ta 3 rfl (aO (vs:=ints (x.cells[key.toNat]'(by omega)).flat) rfl nF rfl fY rfl (λ_ h=>h.2.1) (bz (x.cells[key.toNat]'(by omega))) (Eu x (key.toNat*7) (by omega) (by omega) (ln bD x.cells (i:=key.toNat) 0 (by omega) (by omega) (by decide) (whole (bz (x.cells[key.toNat]'(by omega))))))) ?_;refine FD 4 0 dV aQ ?_;refine LR 5 Y3 (ce x rfl) ?_;refine AL 6 ?_;refine SW 0 fY bz ?_;refine EN (PD 7 ?_);refine DN (ac J8 (aj (af (RT 0 [] nF fY (bz _) ?_))));exact⟨by simp[kT, *],rfl⟩;refine nx J7 (CN (qx J6 (aa λ_ J9=>sr λ_ J10=>PS ?_)));refine FA 29 dV fu ?_;refine IX (29+(of').toNat) ky aQ ?_;refine LT 1 Y3 (.int .i64 ((x.heir[(of').toNat]'(by omega)))) ?_ (hc:=by exact sP x ((of').toNat) (by omega) (by omega) (kZ x.heir (by omega)));refine PS ?_;refine ao ?_ ?_<;>intro h40;refine nx J10 (CY (aa λ_ J11=>D1 1 bp ?_));refine PD 0 ?_;refine PD 1 ?_;refine FD 2 34 dV Cx ?_;refine IY 3 (34+((of').toNat)*28) Nf mn ?_;refine IY 4 (34+((of').toNat)*28+key.toNat*7) Ch fY ?_
 refine ta 5 rfl (aO (vs:=ints ((x.left[(of').toNat]'(by omega))[key.toNat]'(by omega)).flat) rfl nF rfl fY rfl (λ_ h=>h.2.1) (bz ((x.left[(of').toNat]'(by omega))[key.toNat]'(by omega))) (Hc x (((of').toNat)*28+key.toNat*7) (by omega) (by omega) (ln uI x.left (i:=(of').toNat) (key.toNat*7) (by omega) (by omega) (by omega) (ln bD (x.left[(of').toNat]'(by omega)) (i:=key.toNat) 0 (by omega) (by omega) (by decide) (whole (bz ((x.left[(of').toNat]'(by omega))[key.toNat]'(by omega)))))))) ?_;refine PD 6 ?_;refine FD 7 29 dV fu ?_;refine IY 8 (29+(of').toNat) ky aQ ?_;refine LX 9 Y3 (.int .i64 ((x.heir[(of').toNat]'(by omega)))) ?_ (hc:=by exact sP x ((of').toNat) (by omega) (by omega) (kZ x.heir (by omega)));refine ta 10 rfl (jC (r:=(gr ((x.heir[(of').toNat]'(by omega))-1))) rfl rfl rfl rfl) ?_;refine AL 11 ?_;refine SW 0 fY bz ?_;refine EN (PD 12 ?_);refine DN (ac J11 (aj (af (RT 0 [] nF fY (bz _) ?_))));exact⟨by simp[kT, *],rfl⟩;refine nx J10 (CN (qx J9 (sr λ_ J12=>BV ((ints CellT.zero.flat).toArray) ?_)));refine SW 0 fY bz ?_;refine PS ?_;refine nx J12 (aj (RT 0 [] nF fY (bz _) ?_));exact⟨by simp[kT, *],rfl⟩;refine PS ?_;refine P2 ?_;refine UT ?_;refine UT ?_;refine P2 ?_;refine UT ?_;refine UT ?_;refine PS ?_;refine nx J3 (CY (sr λ_ J13=>BV ((ints CellT.zero.flat).toArray) ?_));refine SW 0 fY bz ?_;refine PS ?_;refine nx J13 (aj (af (RT 0 [] nF fY (bz _) ?_)));exact⟨by simp[kT, *],rfl⟩;refine PS ?_;refine PS ?_
 iterate 3 refine UT ?_
 refine P2 ?_;refine UT ?_;refine UT ?_;refine P2 ?_;refine UT ?_;refine UT ?_;refine PS ?_;refine nx J3 (CY (sr λ_ J14=>BV ((ints CellT.zero.flat).toArray) ?_));refine SW 0 fY bz ?_;refine PS ?_;refine nx J14 (aj (af (RT 0 [] nF fY (bz _) ?_)));exact⟨by simp[kT, *],rfl⟩
theorem qw(who:Int):
 DT 34 #[(.int .i64 (who))] T0 [] (dB (λr' H=>∃u,r'=u∧H=[own u (gJ who).length (ints (gJ who)) 3 1])):=by
 refine BD 20 Tryz.func34 rfl rfl rfl λw0 F hF=>sr λ_ J1=>PS ?_
 refine nx J1 (aa λ_ J2=>sr λ_ J3=>PS ?_);refine CE JQ (kB who) ID ?_;refine bf ?_ ?_<;>intro h6;have hm:0≤who∧who<5:=of_decide_eq_true h6;refine PS ?_;refine nx J3 (CN (qx J2 (sr λ_ J4=>PL 3 1 (λon=>?_))));clear on;refine PS ?_;refine nx J4 (aa λ_ J5=>sr λ_ J6=>PS ?_);refine nx J6 (aq (sW 3 (aa λ_ J7=>sr λ_ J8=>P2 ?_)));refine nx J8 (CY (qx J7 (aa λ_ J9=>aq (ae (P3 ?_)))));refine tp (cL (r:=(who+1)) rfl rfl rfl (bX (by omega) (by omega))) ?_;refine tp (PV.rem (r:=((who+1)%5)) rfl rfl rfl (by omega) (GE (by omega))) ?_;refine aW (cells:=#[(.int .i64 (((who+1)%5)))]) (ab rfl) rfl rfl rfl kM sE rfl rfl rfl (by as_aux_lemma=>kernel_rfl) (λb17=>cS (k:=1) (news:=[(.int .i64 (((who+1)%5)))]) (nn':=1) (xs':=[(.int .i64 (((who+1)%5)))]) (ab rfl) rfl rfl rfl kM sE rfl rfl rfl rfl rfl rfl (λ_ _=>kj rfl (RO 0) rfl) (by simp[Value.oneCell']) (by simp only[maxLen];omega) (by omega) (by simp) (by simp) (λv18 ov18=>PS ?_));refine au (ag (ac J9 (ae (PS ?_))));refine tp (cL (r:=2) rfl rfl rfl (by decide)) ?_;refine PS ?_;refine au (eL (aa λ_ J10=>sr λ_ J11=>P2 ?_));refine nx J11 (CY (qx J10 (aa λ_ J12=>aq (ae (P3 ?_)))));refine tp (cL (r:=(who+2)) rfl rfl rfl (bX (by omega) (by omega))) ?_;refine tp (PV.rem (r:=((who+2)%5)) rfl rfl rfl (by omega) (GE (by omega))) ?_
 refine cJ (H':=[own v18 (1) ([(.int .i64 (((who+1)%5)))]) 3 1]) (λ_ s=>ak [1] rfl s) (aW (cells:=#[(.int .i64 (((who+2)%5)))]) (ab rfl) rfl rfl rfl kM sE rfl rfl rfl (by as_aux_lemma=>kernel_rfl) (λb17=>cS (k:=1) (news:=[(.int .i64 (((who+2)%5)))]) (nn':=1+1) (xs':=[(.int .i64 (((who+1)%5)))]++[(.int .i64 (((who+2)%5)))]) (ab rfl) rfl rfl rfl kM sE rfl rfl rfl rfl rfl rfl (λ_ _=>kj rfl (RO 0) rfl) (by simp[Value.oneCell']) (by simp only[maxLen];omega) (by omega) (by simp) (by simp) (λv18 ov18=>PS ?_)));refine au (ag (ac J12 (ae (PS ?_))));refine tp (cL (r:=3) rfl rfl rfl (by decide)) ?_;refine PS ?_;refine au (eL (aa λ_ J13=>sr λ_ J14=>P2 ?_));refine nx J14 (CN (aX (aA (aA (bu (ac J5 (sr λ_ J15=>P2 ?_)))))));refine nx J15 (aj (WK [1] (aw rfl rfl ?_)));exact⟨_,rfl,by rw[gJ,if_pos h6];rfl⟩;refine PS ?_;refine nx J3 (CY (sr λ_ J16=>PS ?_));refine nx J16 (aj (af (aF (H':=[own (.slice none 0 0) 0 [] 3 1]) (dE _) (λ_ s=>iq 3 1 s) (aw rfl rfl ?_))));exact⟨_,rfl,by rw[gJ,if_neg (by simp[h6])];rfl⟩
theorem lJ(b off T:Nat)(cs:BookT→List Value)(hA:Arnd cs (λx=>ints x.flat) off)(B:BookT)(who:Int):
 DT 43 #[(.pointer (some ⟨b,off,none⟩)),(.int .i64 (who))] T0 [am b (cs B) T] (RI (.agg (ints (bL B who).flat).toArray) [am b (cs B) T]):=by
 refine BD 15 Tryz.func43 rfl rfl rfl λw0 F hF=>sr λ_ J1=>XZ uB (ints RowT.zero.flat) λb4=>?_
 refine nx J1 (aa λ_ J2=>sr λ_ J3=>PS ?_);refine CE ND (mf who) ID ?_;refine bf ?_ ?_<;>intro h6;have hm:0≤who∧who<5:=of_decide_eq_true h6;refine PS ?_;refine nx J3 (CN (qx J2 (sr λ_ J4=>P3 ?_)));refine tp (bc (r:=off) rfl KV rfl uM rfl rfl) ?_;refine IX (off+who.toNat*174) I1 bg ?_;refine tp (aO (vs:=ints (B.rows[who.toNat]'(by omega)).flat) rfl dV rfl bg rfl (RO 1) (ah (B.rows[who.toNat]'(by omega))) (Qc hA (j:=who.toNat*174) (by omega) (LB (yU _)) (P8 B (who.toNat*174) (by omega) (by omega) (ln dL B.rows (i:=who.toNat) 0 (by omega) (by omega) (by decide) (whole (ah (B.rows[who.toNat]'(by omega)))))))) ?_;refine SW 0 bg ah ?_;refine nx J4 (aj (RC 0 [1] dV bg (ah _) ?_));exact⟨by rw[bL,dif_pos h6],rfl⟩;refine PS ?_;refine nx J3 (CY (sr λ_ J5=>BV ((ints RowT.zero.flat).toArray) ?_));refine SW 0 bg ah ?_;refine nx J5 (aj (af (RC 0 [1] dV bg (ah _) ?_)));exact⟨by rw[bL,dif_neg (by simp[h6])],rfl⟩
theorem lK(b off T:Nat)(cs:BookT→List Value)(hA:Arnd cs (λx=>ints x.flat) off)(B:BookT)(who:Int)(x:RowT)(hx:WF x.flat):
 DT 75 #[(.pointer (some ⟨b,off,none⟩)),(.int .i64 (who)),(.agg (ints x.flat).toArray)] T0 [am b (cs B) T] (RI (.bool (fz B who x).2) [am b (cs (fz B who x).1) T]):=by
 refine BD 33 Tryz.func75 rfl rfl rfl λw0 F hF=>sr λ_ J1=>XY (ints x.flat) λb5=>?_
 refine PS ?_;refine nx J1 (aa λ_ J2=>aa λ_ J3=>D2 0 1 bp ?_);refine PD 0 ?_;refine AL 1 ?_;refine CE ND (mf who) ID ?_;refine bf ?_ ?_<;>intro h8;have hm:0≤who∧who<5:=of_decide_eq_true h8;have hrow:bL B who=B.rows[who.toNat]'(by omega):=by rw[bL,dif_pos h8]
 refine au (E2 0 1 (PD 2 ?_));refine PD 3 ?_;refine LY 4 dV bg ah ?_;refine AL 5 ?_;refine CE Im (jo x hx) ID ?_;refine bf ?_ ?_<;>intro h12;refine au (E2 0 1 (PD 6 ?_));refine PD 7 ?_;refine PD 8 ?_;refine FD 9 0 dV aQ ?_;refine LR 10 Y3 (ce x rfl) ?_;refine PD 11 ?_;refine PD 12 ?_;refine PD 13 ?_;refine tb 14 rfl (bc (r:=off) rfl KV rfl uM rfl rfl) ?_;refine IY 15 (off+who.toNat*174) I1 bg ?_;refine tb 16 rfl (bc (r:=off+who.toNat*174) rfl dV rfl aQ rfl rfl) ?_;refine LX 17 Y3 (.int .i64 ((B.rows[who.toNat]'(by omega)).version)) ?_ (hc:=by exact Arnd.at hA (j:=who.toNat*174) (by omega) (LB (yU _)) (BookT.pt_rows B (who.toNat*174) (by omega) (by omega) (oX dL B.rows (i:=who.toNat) 0 (by omega) (by omega) (by decide) (ce _ rfl))));refine PD 18 ?_;refine iK ?_ ?_<;>intro h25;refine PD 19 ?_;refine DN (ac J3 (CY (sr λ_ J4=>PS ?_)));refine nx J4 (aj (af (WK [1] (aw rfl rfl ?_))));have e:fz B who x=(B,false):=by rw[fz,if_neg (λh=>by simp only[av,decide_eq_true_iff]at h;rw[hrow]at h;omega)]
 exact⟨by rw[e],by rw[e];rfl⟩;refine PD 19 ?_;refine DN (ac J3 (CN (qx J2 (aa λ_ J5=>D1 0 bp ?_))));refine PD 0 ?_;refine PD 1 ?_;refine LY 2 dV bg ah ?_;refine PD 3 ?_;refine ta 4 rfl (bc (r:=off) rfl KV rfl uM rfl rfl) ?_;refine IY 5 (off+who.toNat*174) I1 bg ?_;refine AL 6 ?_;refine bO (vs:=ints x.flat) (i:=1) (ab rfl) rfl rfl rfl rfl rfl (by rw[(ah x)];exact bg) (bF _) rfl rfl (by have h0:=(yU B);have h2:=Arnd.le hA B;have h1:=(ah x);omega) (Arnd.wr hA (x:=B) (x':=(BookT.mk (B.rows.set who.toNat x (by omega)))) (j:=who.toNat*174) (by omega) (LC (yU _) (ah _)) (BookT.wr_rows_ B (who.toNat*174) (by omega) (by have h1:=(ah x);omega) (vz dL B.rows (i:=who.toNat) 0 (by omega) (by omega) (by have h1:=(ah x);omega) (cy ((ah (B.rows[who.toNat]'(by omega))).trans (ah x).symm))))) rfl (au (E1 0 (DN (ac J5 (sr λ_ J6=>PS ?_)))));refine nx J6 (aj (WK [1] (aw rfl rfl ?_)));have e:fz B who x=(uU B who x,true):=by rw[fz,if_pos (by simp only[av,decide_eq_true_iff,hrow];exact⟨⟨h8,h12⟩,by omega⟩)]
 exact⟨by rw[e],by rw[e,uU,dif_pos h8];rfl⟩;refine au (E2 0 1 (PD 6 ?_));refine PD 7 ?_;refine PD 8 ?_;refine NT 9 ?_;refine NT 10 ?_;refine NT 11 ?_;refine NT 12 ?_;refine NT 13 ?_;refine NT 14 ?_;refine NT 15 ?_;refine NT 16 ?_;refine NT 17 ?_;refine NT 18 ?_;refine PD 19 ?_;refine DN (ac J3 (CY (sr λ_ J7=>PS ?_)));refine nx J7 (aj (af (WK [1] (aw rfl rfl ?_))));have e:fz B who x=(B,false):=by rw[fz,if_neg (λh=>by simp only[av,decide_eq_true_iff]at h;rw[h12]at h;exact absurd h.1.2 (by decide))]
 exact⟨by rw[e],by rw[e];rfl⟩;refine au (E2 0 1 (PD 2 ?_));refine PD 3 ?_;refine NT 4 ?_;refine NT 5 ?_;refine NT 6 ?_;refine PD 7 ?_;refine PD 8 ?_;refine NT 9 ?_;refine NT 10 ?_;refine NT 11 ?_;refine NT 12 ?_;refine NT 13 ?_;refine NT 14 ?_;refine NT 15 ?_;refine NT 16 ?_;refine NT 17 ?_;refine NT 18 ?_;refine PD 19 ?_;refine DN (ac J3 (CY (sr λ_ J8=>PS ?_)));refine nx J8 (aj (af (WK [1] (aw rfl rfl ?_))));have e:fz B who x=(B,false):=by rw[fz,if_neg (λh=>by simp only[av,decide_eq_true_iff]at h;rw[h8]at h;exact absurd h.1.1 (by decide))]
 exact⟨by rw[e],by rw[e];rfl⟩
theorem oQ(b off T:Nat)(cs:BookT→List Value)(hA:Arnd cs (λx=>ints x.flat) off)(B:BookT)(of' key:Int):
 DT 74 #[(.pointer (some ⟨b,off,none⟩)),(.int .i64 (of')),(.int .i64 (key))] T0 [am b (cs B) T] (RI (.agg (ints (dp B of' key).flat).toArray) [am b (cs B) T]):=by
 refine BD 35 Tryz.func74 rfl rfl rfl λw0 F hF=>sr λ_ J1=>XZ La (ints CellT.zero.flat) λb6=>?_
 refine nx J1 (sr λ_ J2=>XZ La (ints CellT.zero.flat) λb7=>?_);refine nx J2 (sr λ_ J3=>PS ?_);refine nx J3 (aa λ_ J4=>sr λ_ J5=>PS ?_);refine nx J5 (aq ?_)
 refine bA (α:=(Nat)×(CellT)×(Int)) (λ⟨k,c,n⟩=>k≤5∧(c,n)=yH B of' key k) (λ⟨k,c,n⟩=>[(0,(.pointer (some ⟨b,off,none⟩))),(1,(.int .i64 (of'))),(2,(.int .i64 (key))),(6,(.pointer (some ⟨b6,0,none⟩))),(7,(.pointer (some ⟨b7,0,none⟩))),(8,(.int .i64 (n))),(12,(.int .i64 (((k:Nat):Int))))]) (λ⟨k,c,n⟩=>[am b7 (ints c.flat) 56,am b6 (ints CellT.zero.flat) 56,am b (cs B) T]) (λ⟨k,c,n⟩=>5-k) (0,CellT.zero, -1)
  ⟨aN _,rfl⟩ SB
  (λ_ s=>s) (λ⟨k,c,n⟩ hinv=>?_)
 obtain⟨hk,hc⟩:=hinv;refine sr λ_ J6=>PS ?_
 refine ao ?_ ?_<;>intro h13;refine nx J6 (aa λ_ J7=>CY (qx J7 (aa λ_ J8=>aq (sr λ_ J9=>P2 ?_))));refine nx J9 (sr λ_ J10=>P3 ?_);refine tp (bc (r:=off) rfl KV rfl uM rfl rfl) ?_;refine IX (off+k*174) I1 bg ?_;refine tp (aO (vs:=ints (B.rows[k]'(by omega)).flat) rfl dV rfl bg rfl (RO 2) (ah (B.rows[k]'(by omega))) (Qc hA (j:=k*174) (by omega) (LB (yU _)) (P8 B (k*174) (by omega) (by omega) (ln dL B.rows (i:=k) 0 (by omega) (by omega) (by decide) (whole (ah (B.rows[k]'(by omega)))))))) ?_;refine P3 ?_;refine CE Pn (Bl (B.rows[k]'(by omega)) ((k:Nat):Int) of' key) ID ?_;refine P3 ?_;refine XZ La (ints CellT.zero.flat) λb10=>?_
 refine SW 0 fY bz ?_;refine PS ?_;refine nx J10 (sr λ_ J11=>P3 ?_);refine ao ?_ ?_<;>intro h30;refine nx J11 (CY (ae (LW 0 nF fY bz ?_)));refine PS ?_;refine SW 1 fY bz ?_;refine PS ?_;refine au (ag (ac J8 (ae (AD ?_))));refine PS ?_;refine au ?_
 exact aK ((k+1,(kT (B.rows[k]'(by omega)) ((k:Nat):Int) of' key).1,(kT (B.rows[k]'(by omega)) ((k:Nat):Int) of' key).2):(Nat)×(CellT)×(Int)) ⟨by omega,by rw[wm,←hc,ul,nX B (by omega)];simp[h30]⟩ (by show 5- (k+1)<5-k;omega)
  SB
  (λ_ s=>ak [1,1,1] rfl s)
 refine nx J11 (CN (aU (ag (ac J8 (ae (AD ?_))))));refine PS ?_;refine au ?_
 exact aK ((k+1,c,n):(Nat)×(CellT)×(Int)) ⟨by omega,by rw[wm,←hc,ul,nX B (by omega)];simp[h30]⟩ (by show 5- (k+1)<5-k;omega)
  SB
  (λ_ s=>ak [1,1,1] rfl s)
 refine nx J6 (aa λ_ J12=>CN (aX (aA (aA (bu (ac J4 (sr λ_ J13=>LW 0 nF fY bz ?_)))))));refine SW 1 fY bz ?_;refine nx J13 (aj (RC 1 [2] nF fY (bz _) ?_));obtain rfl:k=5:=by omega
 exact⟨by rw[dp,←hc],rfl⟩
theorem qZ(b off T:Nat)(cs:BookT→List Value)(hA:Arnd cs (λx=>ints x.flat) off)(B:BookT)(key:Int):
 DT 39 #[(.pointer (some ⟨b,off,none⟩)),(.int .i64 (key))] T0 [am b (cs B) T] (RI (.int .i64 (nE B key)) [am b (cs B) T]):=by
 refine BD 24 Tryz.func39 rfl rfl rfl λw0 F hF=>sr λ_ J1=>PS ?_
 refine nx J1 (sr λ_ J2=>PS ?_);refine nx J2 (aa λ_ J3=>sr λ_ J4=>PS ?_);refine nx J4 (aq ?_)
 refine bA (α:=(Nat)×(Int)) (λ⟨k,n⟩=>k≤5∧n=tj B key k) (λ⟨k,n⟩=>[(0,(.pointer (some ⟨b,off,none⟩))),(1,(.int .i64 (key))),(4,(.int .i64 0)),(5,(.int .i64 (n))),(8,(.int .i64 (((k:Nat):Int))))]) (λ⟨k,n⟩=>[am b (cs B) T]) (λ⟨k,n⟩=>5-k) (0,0)
  ⟨aN _,rfl⟩ SB
  (λ_ s=>s) (λ⟨k,n⟩ hinv=>?_)
 obtain⟨hk,hc⟩:=hinv;refine sr λ_ J5=>PS ?_
 refine ao ?_ ?_<;>intro h9;refine nx J5 (aa λ_ J6=>CY (qx J6 (aa λ_ J7=>aq (sr λ_ J8=>P2 ?_))));refine nx J8 (sr λ_ J9=>P3 ?_);refine CE NF (oQ b off T cs hA B ((k:Nat):Int) key) ID ?_;refine XZ La (ints CellT.zero.flat) λb7=>?_
 refine SW 0 fY bz ?_;refine nx J9 (ae (PS ?_));refine FA 0 nF aQ ?_;refine LT 0 Y3 (.int .i64 ((dp B ((k:Nat):Int) key).inn)) ?_ (hc:=by exact sV _ rfl);refine FA 1 nF aQ ?_;refine LT 0 Y3 (.int .i64 ((dp B ((k:Nat):Int) key).out)) ?_ (hc:=by exact sU _ rfl);refine tp (jC (r:=(gr (((dp B ((k:Nat):Int) key).inn)- ((dp B ((k:Nat):Int) key).out)))) rfl rfl rfl rfl) ?_;refine tp (cL (r:=(gr (n+(gr (((dp B ((k:Nat):Int) key).inn)- ((dp B ((k:Nat):Int) key).out)))))) rfl rfl rfl rfl) ?_;refine PS ?_;refine au (ag (ac J7 (ae (AD ?_))));refine PS ?_;refine au ?_
 exact aK ((k+1,(gr (n+(gr (((dp B ((k:Nat):Int) key).inn)- ((dp B ((k:Nat):Int) key).out)))))):(Nat)×(Int)) ⟨by omega,by rw[A3,←hc]⟩ (by show 5- (k+1)<5-k;omega)
  SB
  (λ_ s=>ak [1] rfl s)
 refine nx J5 (aa λ_ J10=>CN (aX (aA (aA (bu (ac J3 (sr λ_ J11=>P2 ?_)))))));refine nx J11 (aj (WK [0] (aw rfl rfl ?_)));obtain rfl:k=5:=by omega
 exact⟨by rw[hc];rfl,rfl⟩
theorem qc(b off T:Nat)(cs:BookT→List Value)(hA:Arnd cs (λx=>ints x.flat) off)(B:BookT)(who key:Int):
    DT 73 #[(.pointer (some ⟨b,off,none⟩)),(.int .i64 (who)),(.int .i64 (key))] T0 [am b (cs B) T] (RI (.int .i64 (nY B who key)) [am b (cs B) T]):=by
 refine BD 71 Tryz.func73 rfl rfl rfl λw0 F hF=>sr λ_ J1=>PS ?_
 refine nx J1 (aa λ_ J2=>sr λ_ J3=>PS ?_);refine CE ND (mf who) ID ?_;refine bf ?_ ?_<;>intro h14;have hm:0≤who∧who<5:=of_decide_eq_true h14;refine PS ?_;refine nx J3 (CN (qx J2 (sr λ_ J4=>XZ Ol (ints ((#v[CellT.zero,CellT.zero,CellT.zero,CellT.zero,CellT.zero]).toList.flatMap CellT.flat)) λb7=>?_)));refine nx J4 (aa λ_ J5=>sr λ_ J6=>PS ?_);refine nx J6 (aq ?_)
 refine bA (α:=(Nat)×(Vector CellT 5)) (λ⟨k,C⟩=>k≤5∧∀(j:Nat) (h:j<5),j<k→C[j]=dp B j key) (λ⟨k,C⟩=>[(0,(.pointer (some ⟨b,off,none⟩))),(1,(.int .i64 (who))),(2,(.int .i64 (key))),(6,(.int .i64 0)),(7,(.pointer (some ⟨b7,0,none⟩))),(16,(.int .i64 (((k:Nat):Int))))]) (λ⟨k,C⟩=>[am b7 (ints (C.toList.flatMap CellT.flat)) 132,am b (cs B) T]) (λ⟨k,C⟩=>5-k) (0, #v[CellT.zero,CellT.zero,CellT.zero,CellT.zero,CellT.zero])
     ⟨aN _,λj _ h=>absurd h (by omega)⟩ SB
     (λ_ s=>ak [0,0] rfl s) (λ⟨k,C⟩ hinv=>?_)
 obtain⟨hk,hC⟩:=hinv;refine sr λ_ J7=>PS ?_
 refine ao ?_ ?_<;>intro h17;refine nx J7 (aa λ_ J8=>CY (qx J8 (aa λ_ J9=>aq (sr λ_ J10=>P2 ?_))));refine nx J10 (ae (P4 ?_));refine CE NF (oQ b off T cs hA B ((k:Nat):Int) key) (SM [1]) ?_;refine IX (k*7) zo fY ?_;refine bO (vs:=ints (dp B ((k:Nat):Int) key).flat) (i:=1) (ab rfl) rfl rfl rfl rfl rfl (by rw[(bz (dp B ((k:Nat):Int) key))];exact fY) (bF _) rfl rfl (by have h0:=(Lm C);have h1:=(bz (dp B ((k:Nat):Int) key));omega) (vz bD C (i:=k) 0 (by omega) (by omega) (by have h1:=(bz (dp B ((k:Nat):Int) key));omega) (cy ((bz (C[k]'(by omega))).trans (bz (dp B ((k:Nat):Int) key)).symm))) rfl (au (ag (ac J9 (ae (AD ?_)))));refine PS ?_;refine au ?_
 exact aK ((k+1,(C.set k (dp B ((k:Nat):Int) key) (by omega))):(Nat)×(Vector CellT 5)) ⟨by omega,λj h hj=>by
        rw[Vector.getElem_set];split
        · subst_vars;rfl
        · exact hC j h (by omega)⟩ (by show 5- (k+1)<5-k;omega)
   SB
   (λ_ s=>ak [1,0] rfl s)
 refine nx J7 (aa λ_ J11=>CN (aX (aA (aA (bu (ac J5 (sr λ_ J12=>PS ?_)))))));refine nx J12 (aa λ_ J13=>sr λ_ J14=>P3 ?_);refine tp (bc (r:=off) rfl KV rfl uM rfl rfl) ?_;refine IX (off+who.toNat*174) I1 bg ?_;refine tp (aO (vs:=ints (B.rows[who.toNat]'(by omega)).flat) rfl dV rfl bg rfl (RO 1) (ah (B.rows[who.toNat]'(by omega))) (Qc hA (j:=who.toNat*174) (by omega) (LB (yU _)) (P8 B (who.toNat*174) (by omega) (by omega) (ln dL B.rows (i:=who.toNat) 0 (by omega) (by omega) (by decide) (whole (ah (B.rows[who.toNat]'(by omega)))))))) ?_;refine PS ?_;have hbr:B.rows[who.toNat]'(by omega)=bL B who:=by rw[bL,dif_pos h14]
 rw[hbr];refine CR Po (Da (bL B who) who) ID λvR HR hR=>?_
 obtain⟨_,rfl,rfl⟩:=hR;revert vR;intro ul1;refine kO 0 rfl rfl (λhlul1 houl1=>tp (ef rfl kM rfl hlul1) ?_);refine PS ?_;refine nx J14 (aq ?_)
 refine bA (α:=(Nat)×(Int)) (λ⟨i,r⟩=>i≤(gM (bL B who) who).length∧r=((gM (bL B who) who).take i).foldl (pN B key) 0) (λ⟨i,r⟩=>[(0,(.pointer (some ⟨b,off,none⟩))),(6,(.int .i64 0)),(7,(.pointer (some ⟨b7,0,none⟩))),(9,(.int .i64 (r))),(33,ul1),(34,(.int .i64 ((((gM (bL B who) who).length:Nat):Int)))),(35,(.int .i64 (((i:Nat):Int))))]) (λ⟨i,r⟩=>[own ul1 ((gM (bL B who) who).length) (ints (gM (bL B who) who)) 3 1,am b7 (ints (C.toList.flatMap CellT.flat)) 132,am b (cs B) T]) (λ⟨i,r⟩=>(gM (bL B who) who).length-i) (0,0)
     ⟨aN _,rfl⟩ SB
     (λ_ s=>ak [0,0,0] rfl s) (λ⟨i,r⟩ hinv=>?_)
 obtain⟨hi,hr⟩:=hinv;have hE: ∀(j:Nat) (h:j<5),C[j]=dp B j key:=λj h=>hC j h (by omega)
 refine sr λ_ J15=>PS ?_
 refine ao ?_ ?_<;>intro h36;refine nx J15 (aa λ_ J16=>CY (qx J16 (aa λ_ J17=>aq (sr λ_ J18=>j5 0 rfl rfl (by omega) (λga capa hva hcapa=>?_)))));obtain⟨q,hq,hq5⟩: ∃q:Nat,(gM (bL B who) who)[i]=((q:Nat):Int)∧q<5:=by have:=Fc (bL B who) who _ (ey (show i< (gM (bL B who) who).length by omega));exact⟨(gM (bL B who) who)[i].toNat,by omega,by omega⟩
 have hE2:C[q]=dp B (gM (bL B who) who)[i] key:=by rw[hE q hq5,hq]
 refine tp (bU (r:=i) hva rfl kM aQ rfl rfl (by omega) (by omega) (by omega)) ?_;refine tp (dr (v:=(.int .i64 (((q:Nat):Int)))) rfl Y3 rfl rfl (gC 0 rfl hva rfl) (by rw[←hq];simp[ints,show i< (gM (bL B who) who).length by omega])) ?_;refine PS ?_;refine nx J18 (aa λ_ J19=>D1 1 bp ?_);refine PD 0 ?_;refine PD 1 ?_;refine IY 2 (q*7) zo fY ?_;refine ta 3 rfl (bc (r:=q*7) rfl nF rfl aQ rfl rfl) ?_;refine LX 4 Y3 (.int .i64 ((C[q]'(by omega)).inn)) ?_ (hc:=by exact oX bD C (i:=q) 0 (by omega) (by omega) (by decide) (sV _ rfl));refine PD 5 ?_;refine IY 6 (q*7) zo fY ?_;refine ta 7 rfl (bc (r:=q*7+1) rfl nF rfl aQ rfl rfl) ?_;refine LX 8 Y3 (.int .i64 ((C[q]'(by omega)).out)) ?_ (hc:=by exact oX bD C (i:=q) 1 (by omega) (by omega) (by decide) (sU _ rfl));refine ta 9 rfl (jC (r:=(gr (((C[q]'(by omega)).inn)- ((C[q]'(by omega)).out)))) rfl rfl rfl rfl) ?_;refine ta 10 rfl (cL (r:=(gr (r+(gr (((C[q]'(by omega)).inn)- ((C[q]'(by omega)).out)))))) rfl rfl rfl rfl) ?_;refine PD 11 ?_;refine DN (ac J19 (sr λ_ J20=>PS ?_));refine nx J20 (aq ?_)
 refine bA (α:=(Nat)×(Int)) (λ⟨o,r3⟩=>o≤5∧r3=qO B key (gM (bL B who) who)[i] (gr (r+gr (C[q].inn-C[q].out))) o) (λ⟨o,r3⟩=>[(0,(.pointer (some ⟨b,off,none⟩))),(6,(.int .i64 0)),(7,(.pointer (some ⟨b7,0,none⟩))),(9,(.int .i64 (r3))),(11,(.int .i64 (((q:Nat):Int)))),(33,ul1),(34,(.int .i64 ((((gM (bL B who) who).length:Nat):Int)))),(35,(.int .i64 (((i:Nat):Int)))),(50,(.int .i64 (((o:Nat):Int))))]) (λ⟨o,r3⟩=>[own ul1 ((gM (bL B who) who).length) (ints (gM (bL B who) who)) 3 1,am b7 (ints (C.toList.flatMap CellT.flat)) 132,am b (cs B) T]) (λ⟨o,r3⟩=>5-o) (0,(gr (r+(gr (((C[q]'(by omega)).inn)- ((C[q]'(by omega)).out))))))
     ⟨aN _,rfl⟩ SB
     (λ_ s=>ak [0,0,0] rfl s) (λ⟨o,r3⟩ hinv=>?_)
 obtain⟨ho,hr3⟩:=hinv;refine sr λ_ J21=>PS ?_
 refine ao ?_ ?_<;>intro h51;refine nx J21 (aa λ_ J22=>CY (qx J22 (aa λ_ J23=>aq (sr λ_ J24=>P2 ?_))));refine nx J24 (D1 1 bp ?_);refine PD 0 ?_;refine PD 1 ?_;refine PD 2 ?_;refine IY 3 (o*7) zo fY ?_;refine ta 4 rfl (bc (r:=o*7+2) rfl nF rfl fu rfl rfl) ?_;refine IY 5 (o*7+2+q) ky aQ ?_;refine LX 6 Y3 (.int .i64 ((((C[o]'(by omega)).given)[q]'(by omega)))) ?_ (hc:=by exact oX bD C (i:=o) (2+q) (by omega) (by omega) (by omega) (P5 (C[o]'(by omega)) q (by omega) (by omega) (kZ ((C[o]'(by omega)).given) (by omega))));refine PD 7 ?_;refine PD 8 ?_;refine IY 9 (q*7) zo fY ?_;refine ta 10 rfl (bc (r:=q*7+2) rfl nF rfl fu rfl rfl) ?_;refine IY 11 (q*7+2+o) ky aQ ?_;refine LX 12 Y3 (.int .i64 ((((C[q]'(by omega)).given)[o]'(by omega)))) ?_ (hc:=by exact oX bD C (i:=q) (2+o) (by omega) (by omega) (by omega) (P5 (C[q]'(by omega)) o (by omega) (by omega) (kZ ((C[q]'(by omega)).given) (by omega))));refine ta 13 rfl (jC (r:=(gr ((((C[o]'(by omega)).given)[q]'(by omega))- (((C[q]'(by omega)).given)[o]'(by omega))))) rfl rfl rfl rfl) ?_;refine ta 14 rfl (cL (r:=(gr (r3+(gr ((((C[o]'(by omega)).given)[q]'(by omega))- (((C[q]'(by omega)).given)[o]'(by omega))))))) rfl rfl rfl rfl) ?_;refine PD 15 ?_;refine DN (ag (ac J23 (ae (AD ?_))));refine PS ?_;refine au ?_
 exact aK ((o+1,(gr (r3+(gr ((((C[o]'(by omega)).given)[q]'(by omega))- (((C[q]'(by omega)).given)[o]'(by omega))))))):(Nat)×(Int)) ⟨by omega,by rw[y3,←hr3,yj _ (by omega),hq,yj _ hq5,←hE o (by omega),←hE q hq5]⟩ (by show 5- (o+1)<5-o;omega)
   SB
   (λ_ s=>ak [0,0,0] rfl s)
 refine nx J21 (aa λ_ J25=>CN (aX (aA (aA (bu (ag (ac J17 (ae (AD ?_)))))))));refine PS ?_;refine au ?_
 exact aK ((i+1,r3):(Nat)×(Int)) ⟨by omega,by
          have h5:o=5:=by omega
          rw[cB (by omega),fj,←hr];show r3=pN B key r _
          rw[hr3,h5,pN,←hE2]⟩ (by show(gM (bL B who) who).length- (i+1)< (gM (bL B who) who).length-i;omega)
   SB
   (λ_ s=>ak [0,0,0] rfl s)
 refine nx J15 (aa λ_ J26=>CN (aX (aA (aA (bu (ac J13 (sr λ_ J27=>P2 ?_)))))));refine nx J27 (aj (WK [2] (aw rfl rfl ?_)));obtain rfl:i=(gM (bL B who) who).length:=by omega
 exact⟨by rw[nY,if_pos h14,hr,iY],rfl⟩;refine PS ?_;refine nx J3 (CY (sr λ_ J28=>PS ?_));refine nx J28 (aj (af (WK [0] (aw rfl rfl ?_))));exact⟨by rw[nY,if_neg (by simp[h14])],rfl⟩
theorem mz(b off T:Nat)(cs:MirT→List Value)(hA:Arnd cs MirT.cells off)(M:MirT)(who:Int):
 DT 77 #[(.pointer (some ⟨b,off,none⟩)),(.int .i64 (who))] T0 [am b (cs M) T] (RI (.agg (ints (cb M who).flat).toArray) [am b (cs M) T]):=by
 refine BD 15 Tryz.func77 rfl rfl rfl λw0 F hF=>sr λ_ J1=>XZ uB (ints RowT.zero.flat) λb4=>?_
 refine nx J1 (aa λ_ J2=>sr λ_ J3=>PS ?_);refine CE GO (iU who) ID ?_;refine bf ?_ ?_<;>intro h6;have hm:0≤who∧who<5:=of_decide_eq_true h6;refine PS ?_;refine nx J3 (CN (qx J2 (sr λ_ J4=>P3 ?_)));refine tp (bc (r:=off) rfl Gj rfl uM rfl rfl) ?_;refine IX (off+who.toNat*174) I1 bg ?_;refine tp (aO (vs:=ints (M.rows[who.toNat]'(by omega)).flat) rfl dV rfl bg rfl (RO 1) (ah (M.rows[who.toNat]'(by omega))) (Qc hA (j:=who.toNat*174) (by omega) (LB (re _)) (MirT.sub_rows M (who.toNat*174) (by omega) (by omega) (ln dL M.rows (i:=who.toNat) 0 (by omega) (by omega) (by decide) (whole (ah (M.rows[who.toNat]'(by omega)))))))) ?_;refine SW 0 bg ah ?_;refine nx J4 (aj (RC 0 [1] dV bg (ah _) ?_));exact⟨by rw[cb,dif_pos h6],rfl⟩;refine PS ?_;refine nx J3 (CY (sr λ_ J5=>BV ((ints RowT.zero.flat).toArray) ?_));refine SW 0 bg ah ?_;refine nx J5 (aj (af (RC 0 [1] dV bg (ah _) ?_)));exact⟨by rw[cb,dif_neg (by simp[h6])],rfl⟩
theorem nV(b off T:Nat)(cs:MirT→List Value)(hA:Arnd cs MirT.cells off)(M:MirT)(who:Int):
 DT 78 #[(.pointer (some ⟨b,off,none⟩)),(.int .i64 (who))] T0 [am b (cs M) T] (RI (.bool (fy M who)) [am b (cs M) T]):=by
 refine BD 15 Tryz.func78 rfl rfl rfl λw0 F hF=>sr λ_ J1=>PS ?_
 refine nx J1 (sr λ_ J2=>PS ?_);refine CE GO (iU who) ID ?_;refine bf ?_ ?_<;>intro h6;have hm:0≤who∧who<5:=of_decide_eq_true h6;refine P4 ?_;refine tq (bc (r:=off+870) rfl Gj rfl Nq rfl rfl) ?_;refine IX (off+870+who.toNat) Tryz.underlying96 lP ?_;refine LT 0 Y4 (.bool ((M.sealed[who.toNat]'(by omega)))) ?_ (hc:=by exact Arnd.at hA (j:=870+who.toNat) (by omega) (LB (re _)) (MirT.pt_sealed M (who.toNat) (by omega) (by omega) (MB M.sealed (by omega))));refine P2 ?_;refine nx J2 (aj (WK [0] (aw rfl rfl ?_)));exact⟨by simp[fy, *],rfl⟩;refine PS ?_
 iterate 6 refine UF ?_
 refine P2 ?_;refine nx J2 (aj (WK [0] (aw rfl rfl ?_)));exact⟨by simp[fy, *],rfl⟩
theorem rK(b off T:Nat)(cs:MirT→List Value)(hA:Arnd cs MirT.cells off)(M:MirT)(who:Int)(x:RowT)(hx:WF x.flat):
 DT 160 #[(.pointer (some ⟨b,off,none⟩)),(.int .i64 (who)),(.agg (ints x.flat).toArray)] T0 [am b (cs M) T] (RI (.bool (kG M who x)) [am b (cs M) T]):=by
 refine BD 34 Tryz.func160 rfl rfl rfl λw0 F hF=>sr λ_ J1=>XY (ints x.flat) λb5=>?_
 refine PS ?_;refine nx J1 (aa λ_ J2=>D2 1 0 bp ?_);refine PD 0 ?_;refine AL 1 ?_;refine CE GO (iU who) ID ?_;refine bf ?_ ?_<;>intro h8;have hm:0≤who∧who<5:=of_decide_eq_true h8;refine EN (PD 2 ?_);refine PD 3 ?_;refine PD 4 ?_;refine PD 5 ?_;refine tb 6 rfl (bc (r:=off+870) rfl Gj rfl Nq rfl rfl) ?_;refine IY 7 (off+870+who.toNat) Tryz.underlying96 lP ?_;refine LX 8 Y4 (.bool ((M.sealed[who.toNat]'(by omega)))) ?_ (hc:=by exact Arnd.at hA (j:=870+who.toNat) (by omega) (LB (re _)) (MirT.pt_sealed M (who.toNat) (by omega) (by omega) (MB M.sealed (by omega))));refine oc ?_ ?_<;>intro h15;refine PD 9 ?_;refine PD 10 ?_;refine PD 11 ?_;refine NT 12 ?_;refine NT 13 ?_;refine PD 14 ?_;refine PD 15 ?_;refine NT 16 ?_;refine NT 17 ?_;refine NT 18 ?_;refine NT 19 ?_;refine NT 20 ?_;refine NT 21 ?_;refine NT 22 ?_;refine NT 23 ?_;refine NT 24 ?_;refine NT 25 ?_;refine PD 26 ?_;refine PD 27 ?_;refine DN (ac J2 (aj (WK [1] (aw rfl rfl ?_))));exact⟨by simp[kG,fy,cb, *],rfl⟩;refine PD 9 ?_;refine PD 10 ?_;refine PD 11 ?_;refine LY 12 dV bg ah ?_;refine AL 13 ?_;refine CE Im (jo x hx) ID ?_;refine bf ?_ ?_<;>intro h20;refine EN (PD 14 ?_);refine PD 15 ?_;refine FD 16 0 dV aQ ?_;refine LR 17 Y3 (ce x rfl) ?_;refine PD 18 ?_;refine PD 19 ?_;refine PD 20 ?_;refine tb 21 rfl (bc (r:=off) rfl Gj rfl uM rfl rfl) ?_;refine IY 22 (off+who.toNat*174) I1 bg ?_;refine tb 23 rfl (bc (r:=off+who.toNat*174) rfl dV rfl aQ rfl rfl) ?_
 refine LX 24 Y3 (.int .i64 ((M.rows[who.toNat]'(by omega)).version)) ?_ (hc:=by exact Arnd.at hA (j:=who.toNat*174) (by omega) (LB (re _)) (MirT.pt_rows M (who.toNat*174) (by omega) (by omega) (oX dL M.rows (i:=who.toNat) 0 (by omega) (by omega) (by decide) (ce _ rfl))));refine PD 25 ?_;refine PD 26 ?_;refine PD 27 ?_;refine DN (ac J2 (aj (WK [1] (aw rfl rfl ?_))));exact⟨by simp[kG,fy,cb, *],rfl⟩;refine EN (PD 14 ?_);refine PD 15 ?_;refine NT 16 ?_;refine NT 17 ?_;refine NT 18 ?_;refine NT 19 ?_;refine NT 20 ?_;refine NT 21 ?_;refine NT 22 ?_;refine NT 23 ?_;refine NT 24 ?_;refine NT 25 ?_;refine PD 26 ?_;refine PD 27 ?_;refine DN (ac J2 (aj (WK [1] (aw rfl rfl ?_))));exact⟨by simp[kG,fy,cb, *],rfl⟩;refine EN (PD 2 ?_);refine NT 3 ?_;refine NT 4 ?_;refine NT 5 ?_;refine NT 6 ?_;refine NT 7 ?_;refine NT 8 ?_;refine NT 9 ?_;refine PD 10 ?_;refine PD 11 ?_;refine NT 12 ?_;refine NT 13 ?_;refine PD 14 ?_;refine PD 15 ?_;refine NT 16 ?_;refine NT 17 ?_;refine NT 18 ?_;refine NT 19 ?_;refine NT 20 ?_;refine NT 21 ?_;refine NT 22 ?_;refine NT 23 ?_;refine NT 24 ?_;refine NT 25 ?_;refine PD 26 ?_;refine PD 27 ?_;refine DN (ac J2 (aj (WK [1] (aw rfl rfl ?_))));exact⟨by simp[kG,fy,cb, *],rfl⟩
theorem tR(b off T:Nat)(cs:MirT→List Value)(hA:Arnd cs MirT.cells off)(M:MirT)(who:Int)(x:RowT)(hx:WF x.flat):
 DT 131 #[(.pointer (some ⟨b,off,none⟩)),(.int .i64 (who)),(.agg (ints x.flat).toArray)] T0 [am b (cs M) T] (RI (.bool (kf M who x).2) [am b (cs (kf M who x).1) T]):=by
 refine BD 18 Tryz.func131 rfl rfl rfl λw0 F hF=>sr λ_ J1=>XY (ints x.flat) λb5=>?_
 refine PS ?_;refine nx J1 (aa λ_ J2=>sr λ_ J3=>P2 ?_);refine LW 0 dV bg ah ?_;refine CE MT (rK b off T cs hA M who x hx) (SM [1]) ?_;refine bf ?_ ?_<;>intro h10;have hm0:cH who=true:=by have:=h10;simp only[kG,av]at this;exact this.1.1.1
 have hm:0≤who∧who<5:=of_decide_eq_true hm0;refine PS ?_;refine nx J3 (CN (qx J2 (aa λ_ J4=>D1 1 bp ?_)));refine PD 0 ?_;refine PD 1 ?_;refine LY 2 dV bg ah ?_;refine PD 3 ?_;refine ta 4 rfl (bc (r:=off) rfl Gj rfl uM rfl rfl) ?_;refine IY 5 (off+who.toNat*174) I1 bg ?_;refine AL 6 ?_;refine bO (vs:=ints x.flat) (i:=0) (ab rfl) rfl rfl rfl rfl rfl (by rw[(ah x)];exact bg) (bF _) rfl rfl (by have h0:=(re M);have h2:=Arnd.le hA M;have h1:=(ah x);omega) (Arnd.wr hA (x:=M) (x':=(MirT.mk (M.rows.set who.toNat x (by omega)) M.sealed)) (j:=who.toNat*174) (by omega) (LC (re _) (ah _)) (MirT.wr_rows_ M (who.toNat*174) (by omega) (by have h1:=(ah x);omega) (vz dL M.rows (i:=who.toNat) 0 (by omega) (by omega) (by have h1:=(ah x);omega) (cy ((ah (M.rows[who.toNat]'(by omega))).trans (ah x).symm))))) rfl (au (E1 1 (DN (ac J4 (sr λ_ J5=>PS ?_)))));refine nx J5 (aj (WK [0] (aw rfl rfl ?_)));have e:kf M who x=(u7 M who x,true):=by rw[kf,if_pos h10]
 exact⟨by rw[e],by rw[e,u7,dif_pos hm0];rfl⟩;refine PS ?_;refine nx J3 (CY (sr λ_ J6=>PS ?_));refine nx J6 (aj (af (WK [0] (aw rfl rfl ?_))));have e:kf M who x=(M,false):=by rw[kf,if_neg (by simp[h10])]
 exact⟨by rw[e],by rw[e];rfl⟩
theorem tP(b off T:Nat)(cs:MirT→List Value)(hA:Arnd cs MirT.cells off)(M:MirT)(who:Int):
 DT 132 #[(.pointer (some ⟨b,off,none⟩)),(.int .i64 (who))] T0 [am b (cs M) T] (RI (.tuple #[.agg (ints (cb M who).flat).toArray, .bool (cH who)]) [am b (cs (jR M who)) T]):=by
 refine Leg.Does.body (vs:=[(.pointer (some ⟨b,off,none⟩)),(.int .i64 (who))]) (n:=21) Tryz.func132 rfl rfl rfl (λw0 F hF=>?_);refine sr λ_ J1=>?_
 refine rc (ab rfl) rfl rfl rfl uB (λb4=>?_);change TL _ _ _ _ _ _ _ _ _ [am b4 (ints RowT.zero.flat) 60,am b (cs M) T];refine qq ?_;refine nx J1 ?_;clear J1;refine aa λ_ J2=>?_
 refine sr λ_ J3=>?_
 refine mv ?_;refine lL (ab rfl) rfl rfl rfl GO rfl (iU who) (λ_ s=>s) (λ_ _ _=>trivial) (λvR HR hR=>?_);obtain⟨rfl,rfl⟩:=hR;refine bf (λh7=>?_) (λh7=>?_);have hm:0≤who∧who<5:=of_decide_eq_true h7;refine tp (px (r:=false) rfl rfl rfl) ?_;refine nx J3 ?_;clear J3;refine Hb rfl ?_;refine aU ?_;refine ac J2 ?_;clear J2;refine sr λ_ J4=>?_
 refine mv ?_;refine mv ?_;refine tp (gH rfl rfl) ?_;refine tp (bc (r:=off+870) rfl Gj rfl Nq rfl rfl) ?_;refine tp (e9 (r:=off+870+who.toNat) rfl Tryz.underlying96 lP rfl rfl (by omega) (by omega) (by omega)) ?_;refine bI (i:=1) (ab rfl) rfl rfl rfl rfl rfl lP rfl rfl (by have h0:=(re M);have h2:=Arnd.le hA M;omega) (Arnd.set hA (x:=M) (x':=(MirT.mk M.rows (M.sealed.set who.toNat true (by omega)))) (j:=870+who.toNat) (by omega) (by have h0:=(re M);omega) (MirT.st_sealed M (who.toNat) (by omega) (by omega) (On M.sealed (by omega) _))) rfl ?_;refine nx J4 ?_;clear J4;refine sr λ_ J5=>?_
 refine mv ?_;refine mv ?_;refine tp (gH rfl rfl) ?_;refine tp (bc (r:=off) rfl Gj rfl uM rfl rfl) ?_;refine tp (e9 (r:=off+who.toNat*174) rfl I1 bg rfl rfl (by omega) (by omega) (by omega)) ?_;refine tp (aO (vs:=ints (M.rows[who.toNat]'(by omega)).flat) rfl dV rfl bg rfl (fE 1 rfl rfl) (ah (M.rows[who.toNat]'(by omega))) (Qc hA (j:=who.toNat*174) (by omega) (by have h0:=(re (MirT.mk M.rows (M.sealed.set who.toNat true (by omega))));omega) (MirT.sub_rows (MirT.mk M.rows (M.sealed.set who.toNat true (by omega))) (who.toNat*174) (by omega) (by omega) (ln dL M.rows (i:=who.toNat) 0 (by omega) (by omega) (by decide) (whole (ah (M.rows[who.toNat]'(by omega)))))))) ?_;refine bO (vs:=ints (M.rows[who.toNat]'(by omega)).flat) (i:=0) (ab rfl) rfl rfl rfl rfl rfl (by rw[(ah (M.rows[who.toNat]'(by omega)))];exact bg) (bF _) rfl rfl (by have h0:=(ah RowT.zero);have h1:=(ah (M.rows[who.toNat]'(by omega)));omega) (cy ((ah RowT.zero).trans (ah (M.rows[who.toNat]'(by omega))).symm)) rfl ?_;refine qq ?_;refine nx J5 ?_;clear J5;refine aj ?_;refine mG (H':=[am b (cs (MirT.mk M.rows (M.sealed.set who.toNat true (by omega)))) T]) rfl rfl rfl dV rfl bg (fE 0 rfl rfl) (ah (M.rows[who.toNat]'(by omega))) (λ_ s=>ak [1] rfl s) ?_;exact⟨by simp[cb, *],by simp[jR, *]⟩;refine tp (px (r:=true) rfl rfl rfl) ?_;refine nx J3 ?_;clear J3;refine oh rfl ?_;refine sr λ_ J6=>?_
 refine tp (kP (cells:=(ints RowT.zero.flat).toArray) rfl rfl (by as_aux_lemma=>kernel_rfl)) ?_;refine bO (vs:=ints RowT.zero.flat) (i:=0) (ab rfl) rfl rfl rfl rfl rfl (by rw[(ah RowT.zero)];exact bg) (bF _) rfl rfl (by have h0:=(ah RowT.zero);have h1:=(ah RowT.zero);omega) (cy ((ah RowT.zero).trans (ah RowT.zero).symm)) rfl ?_;refine qq ?_;refine nx J6 ?_;clear J6;refine aj ?_;refine af ?_;clear J2;refine mG (H':=[am b (cs M) T]) rfl rfl rfl dV rfl bg (fE 0 rfl rfl) (ah RowT.zero) (λ_ s=>ak [1] rfl s) ?_;exact⟨by simp[cb, *],by simp[jR, *]⟩
end Go.Proofs.YtjblgopghhgflaaGreat
end

section
namespace Api
open Go Leg Codec
def eD(k:Int):Bool:=decide (k=0∨k=2∨k=9)
def fo(k:Int):Bool:=decide (k=3∨k=6)
def cM:Ps (MsgT×Bool):=pb (fB 10) λk=>
 if eD k then pb (fB 5) λw=>pb tG λx=>pr (⟨k,w,x,0,0, .zero, .zero, .zero, .zero⟩,eH x)
 else if k=1 then pb nl λn=>pr (⟨k,0, .zero,n,0, .zero, .zero, .zero, .zero⟩,true)
 else if fo k then pb nl λn=>pb jz λb=>pr (⟨k,0, .zero,0,n,b, .zero, .zero, .zero⟩,true)
 else if k=4 then pb nl λn=>pb jz λb=>pb jz λd=>pb kV λc=>pr (⟨k,0, .zero,0,n,b,d,c, .zero⟩,true)
 else if k=5 then pb nl λn=>pb jz λb=>pb kV λc=>pr (⟨k,0, .zero,0,n,b, .zero,c, .zero⟩,true)
 else if k=7 then pb lT λv=>pr (⟨k,0, .zero,0,0, .zero, .zero, .zero,v⟩,kp v)
 else if k=8 then pb (fB 5) λw=>pb lT λv=>pr (⟨k,w, .zero,0,0, .zero, .zero, .zero,v⟩,kp v)
 else pr (⟨k,0, .zero,0,0, .zero, .zero, .zero, .zero⟩,true)
def di:Ps (RecT×Bool):=pb (fB 6) λk=>
 if k=0 then pb tG λx=>pr (⟨k,0,x,0, .zero, .zero, .zero⟩,eH x)
 else if k=1 then pb (fB 5) λw=>pb tG λx=>pr (⟨k,w,x,0, .zero, .zero, .zero⟩,eH x)
 else if k=2 then pb (fB 5) λw=>pr (⟨k,w, .zero,0, .zero, .zero, .zero⟩,true)
 else if k=3 then pb nl λn=>pb jz λb=>pr (⟨k,0, .zero,n,b, .zero, .zero⟩,true)
 else if k=4 then pb nl λn=>pb jz λb=>pb kV λc=>pr (⟨k,0, .zero,n,b,c, .zero⟩,true)
 else if k=5 then pb lT λv=>pr (⟨k,0, .zero,0, .zero, .zero,v⟩,kp v)
 else pr (⟨k,0, .zero,0, .zero, .zero, .zero⟩,true)
def eT(bs:List UInt8):MsgT×Int:=match cM bs with
 |some ((m,true),[])=>(m,0)
 |_=>(.zero,1)
def cW(bs:List UInt8):RecT×Int:=match di bs with
 |some ((m,true),[])=>(m,0)
 |_=>(.zero,1)
def cq(m:MsgT):List UInt8:=
 if eD m.kind then bj [m.kind,m.whose]++eS m.row
 else if m.kind=1 then bj [m.kind,m.version]
 else if fo m.kind then bj [m.kind,m.epoch]++bj m.ballot.flat
 else if m.kind=4 then bj [m.kind,m.epoch]++bj m.ballot.flat++bj m.had.flat++bj m.change.flat
 else if m.kind=5 then bj [m.kind,m.epoch]++bj m.ballot.flat++bj m.change.flat
 else if m.kind=7 then bj [m.kind]++bj m.view.flat
 else if m.kind=8 then bj [m.kind,m.whose]++bj m.view.flat
 else []
def dF(m:RecT):List UInt8:=
 if m.kind=0 then bj [m.kind]++eS m.row
 else if m.kind=1 then bj [m.kind,m.whose]++eS m.row
 else if m.kind=2 then bj [m.kind,m.whose]
 else if m.kind=3 then bj [m.kind,m.epoch]++bj m.ballot.flat
 else if m.kind=4 then bj [m.kind,m.epoch]++bj m.ballot.flat++bj m.change.flat
 else if m.kind=5 then bj [m.kind]++bj m.view.flat
 else []
theorem th{v:ViewT}{bs r:List UInt8}(h:lT bs=some (v,r)):Rng v:=λi hi=>by
 have:=(oZ h).1.2.2 i hi;exact⟨this.1,by omega⟩
theorem Bi{x:RowT}{bs r:List UInt8}(h:tG bs=some (x,r)):WF x.flat:=(tF h).1.wf
def Nm(n:Int):Prop:=0≤n∧n<9223372036854775808
def OkB(b:BallotT):Prop:=Nm b.round∧0≤b.who∧b.who<5
def OkC(c:ChangeT):Prop:=(0≤c.kind∧c.kind<2)∧(0≤c.who∧c.who<5)∧(0≤c.heir∧c.heir<5)
def OkV(v:ViewT):Prop:=Nm v.epoch∧(0≤v.members∧v.members<32)∧∀(i:Nat) (h:i<5),0≤v.heirs[i]∧v.heirs[i]<6
theorem yJ{b:BallotT}(h:OkB b)(r:List UInt8):jz (bj b.flat++r)=some (b,r):=by
 obtain⟨a,c⟩:=b;obtain⟨h1,h2,h3⟩:=h;replace h3:c<5:=h3;simp only[BallotT.flat,fe,iG,aG,bb,jz];rw[ay (nC h1.1 h1.2 _),ay (iS (n:=c) h2 h3 (by omega) _)];rfl
theorem Ga{c:ChangeT}(h:OkC c)(r:List UInt8):kV (bj c.flat++r)=some (c,r):=by
 obtain⟨a,b,d⟩:=c;obtain⟨⟨h1,h2⟩,⟨h3,h4⟩,h5,h6⟩:=h;simp only at h1 h2 h3 h4 h5 h6;simp only[ChangeT.flat,fe,iG,aG,bb,kV];rw[ay (iS h1 h2 (by omega) _),ay (iS h3 h4 (by omega) _),ay (iS h5 h6 (by omega) _)];rfl
theorem Jg{v:ViewT}(h:OkV v)(r:List UInt8):lT (bj v.flat++r)=some (v,r):=by
 obtain⟨i,o,g⟩:=v;obtain⟨h1,⟨h2,h3⟩,h4⟩:=h;replace h2:0≤o:=h2;replace h3:o<32:=h3;revert h4;refine Ln (p:=λg=>(∀(i_1:Nat) (h:i_1<5),0≤g[i_1]∧g[i_1]<6)→lT (bj (ViewT.flat ⟨i,o,g⟩)++r)=some (⟨i,o,g⟩,r)) (λa b c d e h4=>?_) g;have e0:=h4 0 (by omega);have e1:=h4 1 (by omega);have e2:=h4 2 (by omega);have e3:=h4 3 (by omega);have e4:=h4 4 (by omega);have s:=λn (h:0≤n∧n<6) r=>iS (n:=n) (lim:=6) h.1 h.2 (by omega) r
 simp only[ViewT.flat,Vector.toList_mk,fe,iG,aG,bb,lT];rw[ay (nC h1.1 h1.2 _),ay (iS h2 h3 (by omega) _),ay (s a e0 _),ay (s b e1 _),ay (s c e2 _),ay (s d e3 _),ay (s e e4 _)];rfl
def Lb(m:MsgT):Bool:=if eD m.kind then eH m.row else if m.kind=7∨m.kind=8 then kp m.view else true
structure OkM(m:MsgT):Prop where
 kind:0≤m.kind∧m.kind<10
 whose:0≤m.whose∧m.whose<5
 row:TameR m.row
 version:Nm m.version
 epoch:Nm m.epoch
 ballot:OkB m.ballot
 had:OkB m.had
 change:OkC m.change
 view:OkV m.view
theorem NY(i:Nat)(hi:i<5):RowT.zero.heir[i]=0:=by match i,hi with|0,_|1,_|2,_|3,_|4,_=>rfl
theorem yD(k:Nat)(hk:k<4):RowT.zero.cells[k]=CellT.zero:=by match k,hk with|0,_|1,_|2,_|3,_=>rfl
theorem BH(i:Nat)(hi:i<5):RowT.zero.left[i]=RowT.zero.cells:=by match i,hi with|0,_|1,_|2,_|3,_|4,_=>rfl
theorem tame_rzero:TameR RowT.zero:=⟨⟨by decide,by decide⟩,λk hk=>by rw[yD k hk];exact uK,λi hi=>by rw[NY i hi];decide,λi k hi hk=>by rw[show RowT.zero.left[i][k]=RowT.zero.cells[k]from by rw[BH i hi],yD k hk];exact uK,λi hi _=>by rw[BH i hi,BH 0 (by decide)]⟩
theorem yf{k:Int}(h: ¬eD k=true)(h2: ¬fo k=true):k≠0∧k≠2∧k≠9∧k≠3∧k≠6:=by
 have n0: ¬(k=0∨k=2∨k=9):=λe=>h (decide_eq_true e)
 have n2: ¬(k=3∨k=6):=λe=>h2 (decide_eq_true e)
 omega
theorem xV{m:MsgT}{g:Bool}{bs r:List UInt8}(h:cM bs=some ((m,g),r)):bs=cq m++r∧Lb m=g∧(0≤m.kind∧m.kind<10)∧(0≤m.whose∧m.whose<5)∧TameR m.row:=by
 obtain⟨k,r1,h1,h2⟩:=aY h;clear h;obtain⟨k1,rfl⟩:=cY h1;have tz:=tame_rzero;have kz:(0:Int)≤0∧(0:Int)<5:=by omega
 by_cases c0:eD k=true
 · simp only[if_pos c0]at h2
   obtain⟨w,r2,h3,h4⟩:=aY h2;obtain⟨k3,rfl⟩:=cY h3;obtain⟨x,r3,h5,h6⟩:=aY h4;obtain⟨k5,rfl⟩:=tF h5;obtain⟨e,rfl⟩:=fQ h6;injection e with e1 e2;subst e1;subst e2
   exact⟨by simp[cq,c0,bj],by simp[Lb,c0],⟨k1.1,k1.2.1⟩,⟨k3.1,k3.2.1⟩,k5⟩
 simp only[if_neg c0]at h2;have fin: ∀{m:MsgT} {bs':List UInt8},m.kind=k→jg k++bs'=cq m++r→Lb m=g→(0≤m.whose∧m.whose<5)→TameR m.row→jg k++bs'=cq m++r∧Lb m=g∧(0≤m.kind∧m.kind<10)∧(0≤m.whose∧m.whose<5)∧TameR m.row:=λe a b c d=>⟨a,b,by rw[e];exact⟨k1.1,k1.2.1⟩,c,d⟩
 by_cases c1:k=1
 · simp only[if_pos c1]at h2
   subst c1;obtain⟨n,r2,h3,h4⟩:=aY h2;obtain⟨_,_,rfl⟩:=iE h3;obtain⟨e,rfl⟩:=fQ h4;injection e with e1 e2;subst e1;subst e2
   exact fin rfl (by simp[cq,eD,fo,bj]) (by simp[Lb,eD]) kz tz
 simp only[if_neg c1]at h2
 by_cases c2:fo k=true
 · simp only[if_pos c2]at h2
   obtain⟨n,r2,h3,h4⟩:=aY h2;obtain⟨_,_,rfl⟩:=iE h3;obtain⟨b,r3,h5,h6⟩:=aY h4;obtain⟨_,rfl⟩:=j0 h5;obtain⟨e,rfl⟩:=fQ h6;injection e with e1 e2;subst e1;subst e2
   have:=of_decide_eq_true c2;exact fin rfl (by simp[cq,c0,c1,c2,bj]) (by simp[Lb,c0];omega) kz tz
 simp only[if_neg c2]at h2
 by_cases c3:k=4
 · simp only[if_pos c3]at h2
   subst c3;obtain⟨n,r2,h3,h4⟩:=aY h2;obtain⟨_,_,rfl⟩:=iE h3;obtain⟨b,r3,h5,h6⟩:=aY h4;obtain⟨_,rfl⟩:=j0 h5;obtain⟨d,r4,h7,h8⟩:=aY h6;obtain⟨_,rfl⟩:=j0 h7;obtain⟨c,r5,h9,h10⟩:=aY h8;obtain⟨_,rfl⟩:=oD h9;obtain⟨e,rfl⟩:=fQ h10;injection e with e1 e2;subst e1;subst e2
   exact fin rfl (by simp[cq,eD,fo,bj]) (by simp[Lb,eD]) kz tz
 simp only[if_neg c3]at h2
 by_cases c4:k=5
 · simp only[if_pos c4]at h2
   subst c4;obtain⟨n,r2,h3,h4⟩:=aY h2;obtain⟨_,_,rfl⟩:=iE h3;obtain⟨b,r3,h5,h6⟩:=aY h4;obtain⟨_,rfl⟩:=j0 h5;obtain⟨c,r5,h9,h10⟩:=aY h6;obtain⟨_,rfl⟩:=oD h9;obtain⟨e,rfl⟩:=fQ h10;injection e with e1 e2;subst e1;subst e2
   exact fin rfl (by simp[cq,eD,fo,bj]) (by simp[Lb,eD]) kz tz
 simp only[if_neg c4]at h2
 by_cases c5:k=7
 · simp only[if_pos c5]at h2
   subst c5;obtain⟨v,r3,h5,h6⟩:=aY h2;obtain⟨_,rfl⟩:=oZ h5;obtain⟨e,rfl⟩:=fQ h6;injection e with e1 e2;subst e1;subst e2
   exact fin rfl (by simp[cq,eD,fo,bj]) (by simp[Lb,eD]) kz tz
 simp only[if_neg c5]at h2;have c6:k=8:=by have:=yf c0 c2;omega
 simp only[if_pos c6]at h2;subst c6;obtain⟨w,r2,h3,h4⟩:=aY h2;obtain⟨k3,rfl⟩:=cY h3;obtain⟨v,r3,h5,h6⟩:=aY h4;obtain⟨_,rfl⟩:=oZ h5;obtain⟨e,rfl⟩:=fQ h6;injection e with e1 e2;subst e1;subst e2
 exact fin rfl (by simp[cq,eD,fo,bj]) (by simp[Lb,eD]) ⟨k3.1,k3.2.1⟩ tz
def qa(m:RecT):RecT:=
 if m.kind=0 then⟨m.kind,0,m.row,0, .zero, .zero, .zero⟩
 else if m.kind=1 then⟨m.kind,m.whose,m.row,0, .zero, .zero, .zero⟩
 else if m.kind=2 then⟨m.kind,m.whose, .zero,0, .zero, .zero, .zero⟩
 else if m.kind=3 then⟨m.kind,0, .zero,m.epoch,m.ballot, .zero, .zero⟩
 else if m.kind=4 then⟨m.kind,0, .zero,m.epoch,m.ballot,m.change, .zero⟩
 else⟨m.kind,0, .zero,0, .zero, .zero,m.view⟩
def wx(m:RecT):Bool:=if m.kind=0∨m.kind=1 then eH m.row else if m.kind=5 then kp m.view else true
structure OkRc(m:RecT):Prop where
 kind:0≤m.kind∧m.kind<6
 whose:0≤m.whose∧m.whose<5
 row:TameR m.row
 epoch:Nm m.epoch
 ballot:OkB m.ballot
 change:OkC m.change
 view:OkV m.view
theorem LL{m:RecT}(h:OkRc m)(r:List UInt8):di (dF m++r)=some ((qa m,wx m),r):=by
 have hk:=h.kind;have kk:=λr=>iS hk.1 hk.2 (show m.kind<9223372036854775808 by omega) r
 have kw:=λr=>iS h.whose.1 h.whose.2 (show m.whose<9223372036854775808 by have:=h.whose;omega) r
 have ke:=λr=>nC h.epoch.1 h.epoch.2 r
 unfold di dF qa wx
 by_cases c0:m.kind=0
 · have q:m.kind=0∨m.kind=1:= .inl c0
   simp only[if_pos c0,if_pos q,fe,iG,aG,bb];rw[ay (kk _)];simp only[if_pos c0];rw[ay (C9 h.row _)];rfl
 simp only[if_neg c0]
 by_cases c1:m.kind=1
 · have q:m.kind=0∨m.kind=1:= .inr c1
   simp only[if_pos c1,if_pos q,fe,iG,aG,bb];rw[ay (kk _)];simp only[if_neg c0,if_pos c1];rw[ay (kw _),ay (C9 h.row _)];rfl
 have q: ¬(m.kind=0∨m.kind=1):=by omega
 simp only[if_neg c1,if_neg q]
 by_cases c2:m.kind=2
 · have q: ¬m.kind=5:=by omega
   simp only[if_pos c2,if_neg q,fe,iG,aG,bb];rw[ay (kk _)];simp only[if_neg c0,if_neg c1,if_pos c2];rw[ay (kw _)];rfl
 simp only[if_neg c2]
 by_cases c3:m.kind=3
 · have q: ¬m.kind=5:=by omega
   simp only[if_pos c3,if_neg q,fe,iG,aG,bb];rw[ay (kk _)];simp only[if_neg c0,if_neg c1,if_neg c2,if_pos c3];rw[ay (ke _),ay (yJ h.ballot _)];rfl
 simp only[if_neg c3]
 by_cases c4:m.kind=4
 · have q: ¬m.kind=5:=by omega
   simp only[if_pos c4,if_neg q,fe,iG,aG,bb];rw[ay (kk _)];simp only[if_neg c0,if_neg c1,if_neg c2,if_neg c3,if_pos c4];rw[ay (ke _),ay (yJ h.ballot _),ay (Ga h.change _)];rfl
 have c5:m.kind=5:=by omega
 simp only[if_neg c4,if_pos c5,fe,iG,aG,bb];rw[ay (kk _)];simp only[if_neg c0,if_neg c1,if_neg c2,if_neg c3,if_neg c4,if_pos c5];rw[ay (Jg h.view _)];rfl
theorem xF{m:RecT}{g:Bool}{bs r:List UInt8}(h:di bs=some ((m,g),r)):bs=dF m++r∧wx m=g∧(0≤m.kind∧m.kind<6)∧(0≤m.whose∧m.whose<5)∧TameR m.row:=by
 obtain⟨k,r1,h1,h2⟩:=aY h;clear h;obtain⟨k1,rfl⟩:=cY h1;have tz:=tame_rzero;have kz:(0:Int)≤0∧(0:Int)<5:=by omega
 by_cases c0:k=0
 · simp only[if_pos c0]at h2
   subst c0;obtain⟨x,r3,h5,h6⟩:=aY h2;obtain⟨k5,rfl⟩:=tF h5;obtain⟨e,rfl⟩:=fQ h6;injection e with e1 e2;subst e1;subst e2
   exact⟨by simp[dF,bj],by simp[wx],⟨k1.1,k1.2.1⟩,kz,k5⟩
 simp only[if_neg c0]at h2
 by_cases c1:k=1
 · simp only[if_pos c1]at h2
   subst c1;obtain⟨w,r2,h3,h4⟩:=aY h2;obtain⟨k3,rfl⟩:=cY h3;obtain⟨x,r3,h5,h6⟩:=aY h4;obtain⟨k5,rfl⟩:=tF h5;obtain⟨e,rfl⟩:=fQ h6;injection e with e1 e2;subst e1;subst e2
   exact⟨by simp[dF,bj],by simp[wx],⟨k1.1,k1.2.1⟩,⟨k3.1,k3.2.1⟩,k5⟩
 simp only[if_neg c1]at h2
 by_cases c2:k=2
 · simp only[if_pos c2]at h2
   subst c2;obtain⟨w,r2,h3,h4⟩:=aY h2;obtain⟨k3,rfl⟩:=cY h3;obtain⟨e,rfl⟩:=fQ h4;injection e with e1 e2;subst e1;subst e2
   exact⟨by simp[dF,bj],by simp[wx],⟨k1.1,k1.2.1⟩,⟨k3.1,k3.2.1⟩,tz⟩
 simp only[if_neg c2]at h2
 by_cases c3:k=3
 · simp only[if_pos c3]at h2
   subst c3;obtain⟨n,r2,h3,h4⟩:=aY h2;obtain⟨_,_,rfl⟩:=iE h3;obtain⟨b,r3,h5,h6⟩:=aY h4;obtain⟨_,rfl⟩:=j0 h5;obtain⟨e,rfl⟩:=fQ h6;injection e with e1 e2;subst e1;subst e2
   exact⟨by simp[dF,bj],by simp[wx],⟨k1.1,k1.2.1⟩,kz,tz⟩
 simp only[if_neg c3]at h2
 by_cases c4:k=4
 · simp only[if_pos c4]at h2
   subst c4;obtain⟨n,r2,h3,h4⟩:=aY h2;obtain⟨_,_,rfl⟩:=iE h3;obtain⟨b,r3,h5,h6⟩:=aY h4;obtain⟨_,rfl⟩:=j0 h5;obtain⟨c,r5,h9,h10⟩:=aY h6;obtain⟨_,rfl⟩:=oD h9;obtain⟨e,rfl⟩:=fQ h10;injection e with e1 e2;subst e1;subst e2
   exact⟨by simp[dF,bj],by simp[wx],⟨k1.1,k1.2.1⟩,kz,tz⟩
 simp only[if_neg c4]at h2;have c5:k=5:=by omega
 simp only[if_pos c5]at h2;subst c5;obtain⟨v,r3,h5,h6⟩:=aY h2;obtain⟨_,rfl⟩:=oZ h5;obtain⟨e,rfl⟩:=fQ h6;injection e with e1 e2;subst e1;subst e2
 exact⟨by simp[dF,bj],by simp[wx],⟨k1.1,k1.2.1⟩,kz,tz⟩
theorem Rng.zeros{v:ViewT}(h:v.heirs= #v[0,0,0,0,0]):Rng v:=λi hi=>by
 have:v.heirs[i]=0:=by
  rw[show v.heirs[i]=(#v[0,0,0,0,0]:Vector Int 5)[i]from by rw[h]]
  match i,hi with|0,_|1,_|2,_|3,_|4,_=>rfl
 omega
theorem Rng.zero:Rng ViewT.zero:=Rng.zeros rfl
theorem Rng.first:Rng firstV:=Rng.zeros rfl
structure GoodV(v:ViewT):Prop where
 epoch:1≤v.epoch
 mem:1≤v.members∧v.members<32
 ok: ∀(i:Nat) (h:i<5),MI v v.heirs[i] i=true
 rng:Rng v
def xD(x:RepT):MsgT:= {MsgT.zero with kind:=0,whose:=x.id,row:=x.own}
def pS(id:Int)(x:RowT):MsgT:= {MsgT.zero with kind:=2,whose:=id,row:=x}
def Ca(k w:Int):Bool:=decide (k.fdiv (2^min w.toNat IntKind.i64.bits)%2=0)
def oo(x:RepT):List SaidT:=((gJ x.id).filter λw=>Ca x.kept w).map λw=>⟨w,xD x⟩
end Api
namespace Api
open Go Leg Codec
def gF(x:RepT)(o:OpT):RowT×Int:=
 if o.kind=0 then pL x.own o.key o.n else if o.kind=1 then pM x.own o.key o.n else if o.kind=2 then(if o.to'≠x.id then mh x.own o.key o.n o.to' else(.zero,5))else(.zero,5)
def kF(x:RepT)(o:OpT):RowT×Int×Int:=
 if ju x.view x.id=false then(.zero,0,9)else if np o.key=false then(.zero,0,5)else if o.kind=3 then(.zero,nE x.book o.key,0)else if x.busy then(.zero,0,8)
 else if(gF x o).2≠0 then(.zero,0,(gF x o).2)else if o.kind≠0∧nY x.book x.id o.key<o.n then(.zero,0,7)else((gF x o).1,0,0)
def dT(y:RowT):RecT:= {RecT.zero with kind:=0,row:=y}
end Api
namespace Api
open Go Leg Codec
end Api
namespace Api
open Go Leg Codec
end Api
namespace Api
open Go Leg Codec
end Api
namespace Api
open Go Leg Codec
end Api
end

section
namespace Leg
open Go Go.ChangeShapes Go.WideShapes Codec Api
section
variable {P:Program} {W:World} {H:Type} {enc:TypeId×Value→H} {B0:Nat} {spare:Nat→Bool} {held:Bool}
theorem ER{t:TypeId}{fuel:Nat}{cs:List Value}{x:DataW H×List MemPlace}(ht:P.underlying t=some .bool)(h:DataW.trod enc P W B0 spare held fuel t cs=some x): ∃b,cs=[.bool b]:=by
 cases fuel with
 |zero=>simp[DataW.trod]at h
 |succ n=>
  unfold DataW.trod at h;rw[ht]at h;split at h<;>simp_all
theorem Fits.append{a b:List (Option IntKind)}{x y:List Lit}(h:Fits a x)(g:Fits b y):Fits (a++b) (x++y):=
 ⟨by rw[de,de,h.1,g.1],λl hl=>(bS.1 hl).elim (h.2 l) (g.2 l)⟩
theorem Au{d:Nat}(ih: ∀t ks,lW P d t=some ks→∀fuel cs x,DataW.trod enc P W B0 spare held fuel t cs=some x→∃ls,Fits ks ls∧cs=ls.map iP)(cs:List Value)(n:Nat):
 ∀(fs:List Field) (o:Nat) (ks:List (Option IntKind)),qV P (lW P d) fs o=some ks→cs.length=o+ks.length→
  (∀f∈fs,∃y,DataW.trod enc P W B0 spare held n f.type ((cs.drop f.offset).take (P.cellsOf f.type))=some y)→∃ls,Fits ks ls∧cs.drop o=ls.map iP
 | [],o,ks,h,hl,_=>by
  simp only[qV,Option.some.injEq]at h;subst h;exact⟨[],⟨rfl,λ_ h=>by cases h⟩,by rw[co (by simpa using da hl)];rfl⟩
 |f::fs,o,ks,h,hl,hf=>by
  simp only[qV]at h;split at h
  · rename_i c hc
    split at h
    · rename_i hh
      obtain⟨m,hm,rfl⟩:=Option.map_eq_some_iff.1 h;rw[ai]at hl;obtain⟨y,hy⟩:=hf f (by simp);rw[hh.1,hh.2]at hy;obtain⟨l1,f1,e1⟩:=ih f.type c hc n _ _ hy;obtain⟨l2,f2,e2⟩:=Au ih cs n fs (o+c.length) m hm (by omega) (λg hg=>hf g (by simp[hg]));refine⟨l1++l2,f1.append f2,?_⟩;rw[de,←e1,←e2,←jj];exact(lR _ _).symm
    · cases h
  · cases h
theorem flat_in: ∀(d:Nat) (t:TypeId) (ks:List (Option IntKind)),lW P d t=some ks→∀fuel cs x,DataW.trod enc P W B0 spare held fuel t cs=some x→∃ls,Fits ks ls∧cs=ls.map iP
 |0,_,_,h=>by simp[lW]at h
 |d+1,t,ks,h=>λfuel cs x hx=>by
  have ih:=flat_in d;simp only[lW]at h;split at h
  · rename_i q hu
    simp only[Option.some.injEq]at h;subst h;obtain⟨n,rfl,_,hw⟩:=DataW.trod_int hu hx;exact⟨[.int q n],⟨rfl,by simpa using hw⟩,rfl⟩
  · rename_i hu
    simp only[Option.some.injEq]at h;subst h;obtain⟨b,rfl⟩:=ER hu hx;exact⟨[.bool b],⟨rfl,by simp[Lit.wf]⟩,rfl⟩
  · rename_i n e hu
    split at h
    · rename_i c hc
      split at h
      · rename_i hh
        simp only[Option.some.injEq]at h;subst h;obtain⟨xs,m,_,_,hl,hxl,hxi⟩:=DataW.trod_array hu hx;rw[hh.2]at hl
        have each: ∀k,k≤n→∃ls,Fits (List.replicate k c).flatten ls∧cs.take (k*c.length)=ls.map iP:=by
         intro k
         induction k with
         |zero=>intro _;exact⟨[],⟨rfl,λ_ h=>by cases h⟩,by simp⟩
         |succ k ihk=>
          intro hk;obtain⟨l1,f1,e1⟩:=ihk (by omega);have hy:=hxi k (by omega);rw[List.getElem?_eq_getElem (by omega),hh.1]at hy;obtain⟨l2,f2,e2⟩:=ih e c hc m _ _ hy;refine⟨l1++l2,?_,?_⟩
          · rw[List.replicate_succ',List.flatten_append]
            simpa using f1.append f2
          · rw[de,←e1,←e2,fO,Nat.one_mul,List.take_add]
        obtain⟨ls,f,e⟩:=each n (aI _);rw[aB (by omega)]at e;exact⟨ls,f,e⟩
      · cases h
    · cases h
  · rename_i fs hu
    split at h
    · rename_i m' hc
      split at h
      · rename_i hh
        simp only[Option.some.injEq]at h;subst h;obtain⟨xs,m,_,_,hl,hxl,hxi⟩:=DataW.trod_struct hu hx
        have:=Au (λt ks h=>ih t ks h) cs m fs.toList 0 _ hc (by rw[hl,hh.1,bn]) (λf hf=>by
         obtain⟨i,hi⟩:=List.getElem?_of_mem hf;have hi':fs[i]?=some f:=by simpa using hi
         have:=hxi i f hi';have hlt:=(Array.getElem?_eq_some_iff.1 hi').1;rw[List.getElem?_eq_getElem (by omega)]at this
         exact⟨_,this⟩)
        simpa using this
      · cases h
    · cases h
  · cases h
theorem fits_ints{c:Nat}{ls:List Lit}(h:Fits (List.replicate c (some .i64)) ls): ∃l,ls=og l∧l.length=c∧WF l:=by
 obtain⟨h1,h2⟩:=h
 have e: ∀x∈ls,∃n,x= .int .i64 n:=λx hx=>by
  have:Al x∈ls.map Al:=List.mem_map_of_mem hx;rw[h1,List.map_replicate]at this;have:=List.eq_of_mem_replicate this;cases x<;>simp only[Al,Option.some.injEq,reduceCtorEq]at this;subst this;exact⟨_,rfl⟩
 refine⟨ls.map λx=>match x with| .int _ n=>n|_=>0,?_,?_,?_⟩
 · rw[og,Ry]
   conv=>lhs;rw[←List.map_id ls]
   refine eg λx hx=>?_
   obtain⟨n,rfl⟩:=e x hx;rfl
 · have:=congrArg List.length h1
   simpa using this
 · intro n hn
   obtain⟨x,hx,rfl⟩:=dQ.1 hn;obtain⟨n,rfl⟩:=e x hx;exact h2 _ hx
theorem litI_cells(l:List Int):(og l).map iP=ints l:=by simp[og,ints,iP]
theorem zl{a:Addr}{v:Value}(h:W.cell? a=some v): ∃b o cs T z,a=⟨b,o,none⟩∧W.heap[b]?=some (.cells (List.toArray cs) T z)∧cs[o]?=some v:=by
 obtain⟨b,o,s⟩:=a;simp only[World.cell?]at h;split at h
 · rename_i cs T z hb
   cases s with
   |some s=>simp at h
   |none=>exact⟨b,o,cs.toList,T,z,rfl,by simpa using hb,by simpa using h⟩
 · cases h
theorem Kn{t e:TypeId}{fuel size:Nat}{α:Type}{E:List Value→α→Hl→Prop}{cs:List Value}{x:DataW H×List MemPlace}(ht:P.underlying t=some (.slice e))(hc:P.cellsOf e=size)(hs:0<size)
 (hE: ∀fuel cs x,DataW.trod enc P W B0 spare held fuel e cs=some x→∃a,E cs a (hp W)) (h:DataW.trod enc P W B0 spare held fuel t cs=some x): ∃u l,cs=[u]∧IsL size E u l (hp W):=by
 classical
 rcases Deep.open_slice ht h with⟨rfl,_⟩| ⟨a,len,cap,m,n,D,Pl,rfl,_,hl,hm,hmm,_,hx⟩
 · exact⟨_,[],rfl, .inl ⟨rfl,rfl⟩⟩
 · have hlm:len≤m:=by rw[hmm];split<;>omega
   by_cases h0:len=0
   · subst h0
     exact⟨_,[],rfl, .inr (.inl ⟨a,cap,rfl,rfl⟩)⟩
   · have first: ∃v,W.cell? a=some v:=by
      obtain⟨cs',h1,_⟩:=hx 0 (by omega);obtain⟨_,h2,h3⟩:=World.cells?_some h1;have:=h3 0 (by omega);rw[hJ,show(a.add 0).add 0=a from rfl,List.getElem?_eq_getElem (by omega)]at this;exact⟨_,this⟩
     obtain⟨v,hv⟩:=first;obtain⟨b,o,bs,T,z,rfl,hb,_⟩:=zl hv
     have each: ∀i,i<len→∃us,us.length=size∧(bs.drop (o+i*size)).take size=us∧∃x,E us x (hp W):=λi hi=>by
      obtain⟨cs',h1,h2⟩:=hx i (by omega);obtain⟨_,h3,h4⟩:=World.cells?_some h1;rw[hc]at h3 h4;refine⟨cs',h3,?_,hE _ _ _ h2⟩;apply List.ext_getElem?;intro k;rw[List.getElem?_take];split
      · rename_i hk
        have:=h4 k hk;rw[q8,q8]at this;simp only[World.cell?,hb,Option.isSome_none,Bool.false_eq_true,if_false]at this;rw[List.getElem?_drop]
        simpa using this
      · rw[List.getElem?_eq_none (by omega)]
     obtain⟨f,hf⟩: ∃f:Nat→α,∀i,i<len→E ((bs.drop (o+i*size)).take size) (f i) (hp W):=by
      have each': ∀i,i<len→∃x,E ((bs.drop (o+i*size)).take size) x (hp W):=λi hi=>by
       obtain⟨us,_,e2,q⟩:=each i hi;rw[e2];exact q
      obtain⟨x,_⟩:=each' 0 (by omega)
      haveI:Inhabited α:=⟨x⟩
      exact Deep.choose_lt each'
     refine⟨_,(List.range len).map f,rfl, .inr (.inr ⟨b,o,cap,bs,T,z,by simp,by simpa using hl,by simpa [maxLen]using hm,hb,λj hj=>?_⟩)⟩;have hj':j<len:=by simpa using hj
     obtain⟨us,e1,e2,_⟩:=each j hj';exact⟨us,e1,e2,by rw[←e2];simpa using hf j hj'⟩
theorem listV_in{t e:TypeId}{size:Nat}{α:Type}{E:List Value→α→Hl→Prop}{v:Value}{d:DataW H}{ps:List MemPlace}(ht:P.underlying t=some (.slice e))(hc:P.cellsOf e=size)(hs:0<size)(hv:Value.okWide P W .any B0 t v)
 (hE: ∀fuel cs x,DataW.trod enc P W 0 spare held fuel e cs=some x→∃a,E cs a (hp W)) (hd:DataW.Trod enc P W 0 spare held t v d ps): ∃l,IsL size E v l (hp W):=by
 obtain⟨fuel,hf⟩:=hd;obtain⟨u,l,h1,h2⟩:=Kn ht hc hs hE hf;obtain⟨a,len,cap,rfl⟩:=WideShapes.okWide_slice ht hv;simp[Value.cells]at h1;subst h1;exact⟨l,h2⟩
end
section
variable {P:Program} {w0:World} {F:Hl} {n:Nat} {ops:Array Oper} {Q:QQ} {D:List Deferred} {L:List (Nat×Value)} {H:List HP} {o:Oper} {l:List Oper} {d:Nat} {S:World→Prop}
def yT(P:Program)(t:TypeId)(rv:Value)(nm:String)(f:FuncId):Prop:=∀w,(method (P.types.size+Made.depth) t rv nm).run P w= .ok (f,rv) w
theorem TL.callI{recv:Operand}{nm:String}{t:TypeId}{rv:Value}{f:FuncId}{xs:Array Operand}{ts:Array TypeId}{vs:List Value}{R:Hl→Prop}{A B:List HP}{p:Value→List HP→Prop}(hw:Want n D ops o L)
 (ho:o.op= .call {callee:= .invoke recv nm,args:=xs,argTypes:=ts}) (hd:o.dst=some d) (hn:Nat.blt d n=true) (hr:cR L recv=some (.iface t rv)) (hm:yT P t rv nm f) (hf:Named P f) (hx:BM L xs.toList=some vs)
 (sp:Does P f (rv::vs).toArray R A (dB p)) (hp: ∀h,bH H h→bH (A++B) h) (hR: ∀g,Dj g F→bH B g→R (jn g F))
 (hret: ∀v H',p v H'→TL P w0 F n ops Q l D ((d,v)::L) (H'++B)):TL P w0 F n ops Q (o::l) D L H:=
 TL.callw hw (λa w g=>by
  have e:xs.map a.eval=vs.toArray:=g.evals hx;have e2:a.eval recv= .iface t rv:=g.eval hr;have e3:=hm w
  simp[execOp,ho,resolve,invoke,callMethod,e,e2,e3,ng hf])
  sp hp hR (λv H' q a g w s m=>by rw[hd];exact hret v H' q _ w (g.put (lb hn) v) s m) (λ_ _ h=>h.elim) (λ_ h=>h)
theorem TE.retCTT{H':List HP}{fn:Func}{post:Ending→List HP→Prop}{t t' t2 ty e m b:Nat}{cs:List Value}{z:Nat×Nat}{dt:TypeDesc}{v' v2:Value}(hr:fn.results=#[.cell t ty, .tmp t', .tmp t2])(he:lk L t=some (.pointer (some ⟨b,0,none⟩)))(e':lk L t'=some v')(e2:lk L t2=some v2)
 (hu:P.underlying ty=some dt) (hp:eI dt=false) (hm:(P.info? ty).map (·.size)=some m) (hR:Rd (Sat H F) b (.cells cs.toArray e z)) (hl:cs.length=m) (hk: ∀h,bH H h→bH H' h)
 (h:post (.returned (.tuple #[.agg cs.toArray,v',v2])) H'):TE w0 F n (bodyPost P fn (ku post w0 F)) .ret [] L H:=λa w f s q=>by
 have h1:a.tmps.getD t undef= .pointer (some ⟨b,0,none⟩):=f.eval (x:= .tmp t) he;have h2:a.tmps.getD t' undef=v':=f.eval (x:= .tmp t') e';have h4:a.tmps.getD t2 undef=v2:=f.eval (x:= .tmp t2) e2
 have h3:(results fn a.tmps).run P w= .ok (.tuple #[.agg cs.toArray,v',v2]) w:=by
  have h1':a.tmps[t]?.getD undef= .pointer (some ⟨b,0,none⟩):=by simpa using h1
  have h2':a.tmps[t']?.getD undef=v':=by simpa using h2
  have h4':a.tmps[t2]?.getD undef=v2:=by simpa using h4
  simp[results,hr,h1',h2',h4',asAddr,run_loadVar_row w b e ty cs.toArray z dt (hR w q) hu (by cases dt<;>simp[eI]at hp ⊢) (by simp[hm,hl])]
 exact bodyPost_ret h3 f.2.1 ⟨s,H',q.mono hk,h⟩
theorem PV.ifaceNotNil{t t' u:TypeId}{x:Operand}{v:Value}{ms:Array (String×TypeId)}(ho:o.op= .binOp .neq t x (.const .nilIface) t')(ht:P.underlying t=some (.interface ms))(hx:cR L x=some (.iface u v)):PV P n D L S o (.bool true):=
 gI ho hx rfl λw=>by
  have:=rN (P:=P) (w:=w) 9999 (u:=u) (v:=v) ht;simp[eqGuard,binOp,Op.equal,Op.maxDepth,this]
end
theorem G0(i:Nat){v:Value}{l:List Int}{e:Nat}{B:List HP}{F:Hl}(hi:Nat.blt i B.length=true)(hH:B.getD i (λ_=>True)=own v l.length (Api.ints l) e 1): ∀g,Dj g F→bH B g→IsI .i64 v l (jn g F):=λg _ s=>by
 obtain⟨h1,h2,d',rfl,a,_⟩:=fl i (lb hi) s;rw[hH]at a;rcases a with⟨_,⟨h0,hn,_⟩| ⟨g,cap,cur,hv,hh,h3,h4,h5,h6⟩⟩
 · exact .inl ⟨h0,List.eq_nil_of_length_eq_zero hn⟩
 · refine .inr ⟨g,0,cap,cur.toList,e,(0,0),hv,h3,by simp only[maxLen]at h4;omega,iz (iz (by rw[hh];simp[sg])),λj hj=>?_⟩
   rw[gp]at h6;have e1:(cur.toList.take l.length)[j]?=some (.int .i64 (l.getD j 0)):=by rw[h6];exact Api.ints_get l j hj
   rw[List.getElem?_take,if_pos hj]at e1
   simpa using e1
variable {P:Program} {w0:World} {F:Hl} {n:Nat} {ops:Array Oper} {Q:QQ} {D:List Deferred} {L:List (Nat×Value)} {H:List HP} {d:Nat} {o:Oper} {l:List Oper}
theorem RU{fn:Func}{post:Ending→List HP→Prop}{t t' t2 ty e m b:Nat}{cs:List Value}{dt:TypeDesc}{v' v2:Value}(k:Nat)(is:List Nat)(hu:P.underlying ty=some dt)(hm:(P.info? ty).map (·.size)=some m)(hl:cs.length=m)(h:post (.returned (.tuple #[.agg cs.toArray,v',v2])) ((C6 H is).take is.length))(hr:fn.results=#[.cell t ty, .tmp t', .tmp t2]:=by exact rfl)(he:lk L t=some (.pointer (some ⟨b,0,none⟩)):=by exact rfl)(e':lk L t'=some v':=by exact rfl)(e2:lk L t2=some v2:=by exact rfl)(hp:eI dt=false:=by exact rfl)(hk:Nat.blt k H.length=true:=by exact rfl)(hH:H.getD k (λ_=>True)=am b cs e:=by exact rfl)(hs:LP H.length is=true:=by exact rfl):TE w0 F n (bodyPost P fn (ku post w0 F)) .ret [] L H:=TE.retCTT hr he e' e2 hu hp hm (fE k hk hH) hl (λ_ s=>ak is hs s) h
end Leg
end

section
namespace Dsk
open Go Leg Codec Api
abbrev ix:=List UInt8
def zs:ix:=List.replicate 64 0
def C7(b:ix):Value:= .agg (eB b).toArray
abbrev fK:=List (Int×ix)
def fa(s:fK)(k:Int):ix:=match s with
 | []=>zs
 | (a,b)::s=>if k=a then b else fa s k
def pa(s:fK)(k:Int)(v:ix):fK:=match s with
 | []=>[(k,v)]
 | (a,b)::s=>if k=a then(a,v)::s else(a,b)::pa s k v
theorem lw(s:fK)(k j:Int)(v:ix):fa (pa s k v) j=if j=k then v else fa s j:=by
 induction s with
 |nil=>simp[pa,fa]
 |cons p s ih=>
  obtain⟨a,b⟩:=p;simp only[pa]
  by_cases h:k=a
  · subst h
    rw[if_pos rfl]
    by_cases h2:j=k
    · simp[fa,h2]
    · simp[fa,h2]
  · rw[if_neg h]
    simp only[fa]
    by_cases h2:j=a
    · subst h2
      rw[if_pos rfl,if_pos rfl,if_neg (by omega)]
    · rw[if_neg h2,if_neg h2,ih]
def sD(s:fK):List (Int×Value):=s.map λp=>(p.1,C7 p.2)
theorem ye(s:fK)(k:Int):(IA (sD s) k).getD (C7 zs)=C7 (fa s k):=by
 induction s with
 |nil=>rfl
 |cons p s ih=>
  obtain⟨a,b⟩:=p;simp only[sD,fX,IA,fa]at ih ⊢;split
  · rfl
  · exact ih
theorem Kq(s:fK)(k:Int)(v:ix):yd (sD s) k (C7 v)=sD (pa s k v):=by
 induction s with
 |nil=>rfl
 |cons p s ih=>
  obtain⟨a,b⟩:=p;simp only[sD,fX,yd,pa]at ih ⊢;split
  · rfl
  · rw[ih];rfl
def df(p:Int×ix):List Value:= .int .i64 p.1::eB p.2
def dU(ws:fK):List Value:=ws.flatMap df
def eV(b:List UInt8):ix:=b++List.replicate (64-b.length) 0
theorem dO{b:List UInt8}(h:b.length≤64):(eV b).length=64:=by simp[eV];omega
def Whole(s:fK):Prop:=∀p∈s,p.2.length=64
theorem cr{p:Int×ix}(h:p.2.length=64):(df p).length=65:=by simp[df,eB,h]
theorem Hi{ws:fK}(h:Whole ws){k:Nat}(hk:k<ws.length):((dU ws).drop (k*65)).take 65=df ws[k]:=by
 induction ws generalizing k with
 |nil=>simp at hk
 |cons p ws ih=>
  have h1:=cr (h p (by simp));simp only[dU,db]at ih ⊢;cases k with
  |zero=>
   simp only[hJ,ba,pA];rw[ci (by omega),aB (by omega)]
  |succ k=>
   rw[gT,co (by omega),h1,show(k+1)*65-65=k*65 by omega,bb]
   simpa using ih (λq hq=>h q (by simp[hq])) (by simpa using hk)
theorem cp{s:fK}(h:Whole s)(k:Int):(fa s k).length=64:=by
 induction s with
 |nil=>simp[fa,zs]
 |cons p s ih=>
  obtain⟨a,b⟩:=p;simp only[fa];split
  · exact h (a,b) (by simp)
  · exact ih λq hq=>h q (by simp[hq])
theorem Whole.put{s:fK}(h:Whole s)(k:Int){v:ix}(hv:v.length=64):Whole (pa s k v):=by
 induction s with
 |nil=>intro p hp;simp only[pa,bR]at hp;subst hp;exact hv
 |cons p s ih=>
  obtain⟨a,b⟩:=p;intro q hq;simp only[pa]at hq;split at hq
  · rcases cA.1 hq with rfl|hq
    · exact hv
    · exact h q (by simp[hq])
  · rcases cA.1 hq with rfl|hq
    · exact h (a,b) (by simp)
    · exact ih (λq hq=>h q (by simp[hq])) q hq
theorem Whole.add{s:fK}(h:Whole s)(k:Int){v:ix}(hv:v.length=64):Whole (s++[(k,v)]):=λp hp=>by
 rcases bS.1 hp with hp|hp
 · exact h p hp
 · simp only[bR]at hp;subst hp;exact hv
section
variable {P:Program} {n:Nat} {D:List Deferred} {L:List (Nat×Value)} {S:World→Prop} {o:Oper}
theorem PV.mapNil{t t' k e m:TypeId}{x y:Operand}(ho:o.op= .binOp .eql t x y t')(hu:P.underlying t=some (.map k e))(hx:cR L x=some (.map (some m)))(hy:cR L y=some (.map none)):PV P n D L S o (.bool false):=
 gI ho hx hy λw=>by
  have e:(Op.equal t (.map (some m)) (.map none)).run P w= .ok false w:=run_equalIn_map_nil w 9999 t k e (some m) hu;simp[eqGuard,binOp,e]
end
end Dsk
namespace Dsk
open Go Leg Codec Api
theorem AU{k:Int}{b:List UInt8}(h:b.length≤64):wr (.int .i64 k::eB zs) 1 ((eB b).take (min b.length 64))=df (k,eV b):=by
 have e:(eB b).take (min b.length 64)=eB b:=aB (by rw[bh];omega);rw[e,wr,bh]
 have e2:(Value.int IntKind.i64 k::eB zs).drop (1+b.length)=eB (List.replicate (64-b.length) 0):=by
  rw[show 1+b.length=b.length+1 by omega,iJ];rw[eB,eB,zs,←lN,Gm]
 rw[e2];simp only[df,eV,eB,de,List.take_succ_cons,List.take_zero,kR,bb]
theorem Kw(vs:List Value): ∀(j:Nat) (pre zeros:List Value),pre.length=j→zeros.length=vs.length→
 ((vs.zipIdx j).foldl (λ(cs:Array Value) (c,i)=>cs.setIfInBounds (0+i) c) (pre++zeros).toArray)=(pre++vs).toArray:=by
 induction vs with
 |nil=>intro j pre zeros _ h;rw[List.eq_nil_of_length_eq_zero h];rfl
 |cons v vs ih=>
  intro j pre zeros hp hz
  match zeros,hz with
  |z::zeros,hz=>
   rw[List.zipIdx_cons,List.foldl_cons]
   have e:(pre++z::zeros).toArray.setIfInBounds (0+j) v=((pre++[v])++zeros).toArray:=by
    rw[bn,List.setIfInBounds_toArray,gQ _ _ (by omega),hp,zB,cg,aG];rfl
   simp only[e];rw[ih (j+1) (pre++[v]) zeros (by simp[hp]) (by simpa using hz),aG];rfl
theorem FP{zeros:Array Value}{vs:List Value}(h:zeros.size=vs.length):Instr.fill (λi=>some (i*vs.length,vs.length)) zeros [(0, .agg vs.toArray)]=some vs.toArray:=by
 have e:=Kw vs 0 [] zeros.toList rfl (by simpa using h);simp only[bb,Array.toArray_toList]at e;simp only[Instr.fill,Value.cells,List.size_toArray,hJ,bn,ne_eq,not_true_eq_false,false_or,decide_false,Bool.false_or];rw[if_neg (by simp[h])];rw[←Array.foldl_toList,Array.toList_zipIdx];simp only[bn]at e;rw[e]
theorem nr{zeros:Array Value}{vs:List Value}{size:Nat}(h:vs.length=size)(hz:zeros.size=size):Instr.fill (λi=>some (i*size,size)) zeros [(0, .agg vs.toArray)]=some vs.toArray:=by
 subst h;exact FP hz
theorem jl(p:Int×ix): ∀u∈df p,u.oneCell'=true:=by
 intro u hu;rcases cA.1 hu with rfl|hu
 · rfl
 · exact fk _ u hu
end Dsk
namespace Leg
open Go
section
variable {P:Program} {w0:World} {F:Hl} {n:Nat} {ops:Array Oper} {Q:QQ} {D:List Deferred} {L:List (Nat×Value)} {H:List HP} {l:List Oper}
end
end Leg
namespace Dsk
open Go Leg Codec Api
def kY(ws:fK)(k:Nat):Int×ix:=ws.getD k (0,zs)
theorem uH{ws:fK}{k:Nat}(hk:k<ws.length):kY ws k=ws[k]:=by simp[kY,List.getD_eq_getElem?_getD,hk]
theorem dY{ws:fK}(h:Whole ws){k:Nat}(hk:k<ws.length):(kY ws k).2.length=64:=by rw[uH hk];exact h _ (ey hk)
theorem ri{ws:fK}(h:Whole ws){k:Nat}(hk:k<ws.length):((dU ws).drop (k*65)).take 65=df (kY ws k):=by rw[uH hk];exact Hi h hk
theorem Hk{ws:fK}(h:Whole ws){k:Nat}(hk:k<ws.length):(dU ws)[k*65]?=some (.int .i64 (kY ws k).1):=by
 have e:=congrArg (λl:List Value=>l[0]?) (ri h hk)
 simpa [df]using e
theorem Hj{ws:fK}(h:Whole ws){k:Nat}(hk:k<ws.length):((dU ws).drop (k*65+1)).take 64=eB (kY ws k).2:=by
 have e:=congrArg (λl:List Value=>l.drop 1) (ri h hk);simp only[pB,jj,df,iJ,ba]at e;exact e
theorem w3{p:Int×ix}(h:p.2.length=64):((df p).drop 1).take 64=eB p.2:=by
 simp only[df,iJ,ba];exact aB (by rw[bh,h];exact aI _)
theorem Cp{p:Int×ix}{c:Nat}(h:p.2.length=64)(hc:c≤64):((df p).drop 1).take (min c 64)=(eB p.2).take c:=by
 simp only[df,iJ,ba];congr 1;omega
theorem xb{l:List Value}{n:Nat}(h:l.length=n):(l.drop 0).take n=l:=by rw[ba,aB (by omega)]
def DE(s ws:fK):Nat→fK
 |0=>s
 |k+1=>pa (DE s ws k) (kY ws k).1 (kY ws k).2
theorem Whole.lay{s ws:fK}(h:Whole s)(hw:Whole ws): ∀k,k≤ws.length→Whole (DE s ws k)
 |0,_=>h
 |k+1,hk=>(Whole.lay h hw k (by omega)).put _ (dY hw (by omega))
def lU(old new:ix)(c:Nat):ix:=new.take c++old.drop c
theorem o6{old new:ix}{c:Nat}(h1:old.length=64)(h2:new.length=64):(lU old new c).length=64:=by simp[lU];omega
def nw(n:Int):Nat:=(min (max n 0) 64).toNat
theorem Mj(n:Int):min (max n 0) 64=((nw n:Nat):Int):=by unfold nw;omega
theorem nv(n:Int):nw n≤64:=by unfold nw;omega
def kh(mask torn:Int)(c:Nat)(s:fK)(k:Nat)(p:Int×ix):fK:=
 if(k:Int)=torn then pa s p.1 (lU (fa s p.1) p.2 c)else if mask.fdiv (2^ (k%32))%2=1 then pa s p.1 p.2 else s
def gO(mask torn:Int)(c:Nat)(s ws:fK):Nat→fK
 |0=>s
 |k+1=>kh mask torn c (gO mask torn c s ws k) k (kY ws k)
theorem Whole.crash{mask torn:Int}{c:Nat}{s ws:fK}(h:Whole s)(hw:Whole ws): ∀k,k≤ws.length→Whole (gO mask torn c s ws k)
 |0,_=>h
 |k+1,hk=>by
  have ih:=Whole.crash (mask:=mask) (torn:=torn) (c:=c) h hw k (by omega);simp only[gO,kh];split
  · exact ih.put _ (o6 (cp ih _) (dY hw (by omega)))
  · split
    · exact ih.put _ (dY hw (by omega))
    · exact ih
def jb(s ws:fK)(at':Int):Nat→ix
 |0=>fa s at'
 |k+1=>if(kY ws k).1=at' then(kY ws k).2 else jb s ws at' k
theorem zW{s ws:fK}(h:Whole s)(hw:Whole ws)(at':Int): ∀k,k≤ws.length→(jb s ws at' k).length=64
 |0,_=>cp h _
 |k+1,hk=>by
  simp only[jb];split
  · exact dY hw (by omega)
  · exact zW h hw at' k (by omega)
theorem HT{s ws:fK}{at':Int}{k:Nat}(h:(kY ws k).1=at'):jb s ws at' (k+1)=(kY ws k).2:=by simp[jb,h]
theorem Fh{s ws:fK}{at':Int}{k:Nat}(h:(kY ws k).1≠at'):jb s ws at' (k+1)=jb s ws at' k:=by simp[jb,h]
theorem Hs{old new:ix}{c m:Nat}(hc:c≤64)(h1:old.length=64)(h2:new.length=64)(hm:m=c):wr (eB old) 0 (((eB new).take c).take m)=eB (lU old new c):=by
 subst hm;have:((eB new).take m).length=m:=by rw[bq,bh];omega
 rw[aB (by omega),wr,this,List.take_zero,bb,bn];simp[eB,lU,qu,lN]
structure DS where
 s:fK
 ws:fK
 ar:Bool
 lf:Int
 dn:Bool
structure DS.Ok(D:DS):Prop where
 s:Whole D.s
 ws:Whole D.ws
 lf:0≤D.lf∧D.lf≤9223372036854775807
def DS.new:DS:=⟨[],[],false,0,false⟩
def DS.arm(D:DS)(n:Int):DS:= {D with ar:=true,lf:=max n 0}
def DS.write(D:DS)(at':Int)(bs:List UInt8):Int×DS:=
 if at'<0∨2048≤at'∨64<bs.length then(5,D)
 else if D.dn=true∨(D.ar=true∧D.lf=0)then(4,{D with dn:=true})
 else(0,{D with ws:=D.ws++[(at',eV bs)],lf:=if D.ar=true then D.lf-1 else D.lf,dn:=false})
def DS.sync(D:DS):Int×DS:=if D.dn=true then(4,D)else(0,{D with s:=DE D.s D.ws D.ws.length,ws:=[]})
def DS.crash(D:DS)(mask torn n:Int):DS:=⟨gO mask torn (nw n) D.s D.ws D.ws.length,[],false,0,false⟩
def DS.read(D:DS)(at':Int):ix:=jb D.s D.ws at' D.ws.length
theorem nA:Whole []:=λ_ h=>absurd h (by simp)
theorem DS.new_ok:DS.new.Ok:=⟨nA,nA,⟨by decide,by decide⟩⟩
theorem DS.arm_ok{D:DS}(h:D.Ok){n:Int}(hn:n≤9223372036854775807):(D.arm n).Ok:=⟨h.s,h.ws,by simp only[DS.arm];omega⟩
abbrev Rq:= @DS.arm_ok
theorem DS.write_ok{D:DS}(h:D.Ok)(at':Int)(bs:List UInt8):(D.write at' bs).2.Ok:=by
 unfold DS.write;split
 · exact h
 · split
   · exact⟨h.s,h.ws,h.lf⟩
   · rename_i h1 h2
     refine⟨h.s,h.ws.add _ (dO (by omega)),?_⟩;have:=h.lf;show 0≤(if D.ar=true then D.lf-1 else D.lf)∧(if D.ar=true then D.lf-1 else D.lf)≤9223372036854775807;split<;>rename_i h3
     · have:D.lf≠0:=λq=>h2 (.inr ⟨h3,q⟩)
       exact⟨by omega,by omega⟩
     · exact this
theorem DS.sync_ok{D:DS}(h:D.Ok):D.sync.2.Ok:=by
 unfold DS.sync;split
 · exact h
 · exact⟨h.s.lay h.ws _ (aI _),nA,h.lf⟩
abbrev PY:= @DS.sync_ok
theorem DS.crash_ok{D:DS}(h:D.Ok)(mask torn n:Int):(D.crash mask torn n).Ok:=⟨h.s.crash h.ws _ (aI _),nA,⟨by simp[DS.crash],by simp[DS.crash]⟩⟩
theorem DS.read_len{D:DS}(h:D.Ok)(at':Int):(D.read at').length=64:=zW h.s h.ws _ _ (aI _)
abbrev mN:= @DS.read_len
theorem DS.write_ws{D:DS}{at':Int}{bs:List UInt8}:(D.write at' bs).2.ws.length≤D.ws.length+1:=by
 unfold DS.write;split
 · simp
 · split
   · simp
   · simp
abbrev PC(DT WT:Nat)(d:Nat)(D:DS):HP:=pack λx:Nat×Value=>[am d [.map (some x.1),x.2, .bool D.ar, .int .i64 D.lf, .bool D.dn] DT,kH x.1 (sD D.s),own x.2 D.ws.length (dU D.ws) WT 65]
end Dsk
end

section
namespace Go.Proofs.YtjblgopghhgflaaGreat
open Go Leg Codec Api Dsk
theorem BR(d m:Nat)(wv:Value)(ar dn:Bool)(lf:Int):
 DT 57 #[(.pointer (some ⟨d,0,none⟩))] T0 [am d [(.map (some m)),wv,(.bool (ar)),(.int .i64 (lf)),(.bool (dn))] 161] (RI (.bool dn) [am d [(.map (some m)),wv,(.bool (ar)),(.int .i64 (lf)),(.bool (dn))] 161]):=by
 refine BD 7 Tryz.func57 rfl rfl rfl λw0 F hF=>sr λ_ J1=>PS ?_
 refine nx J1 (sr λ_ J2=>P2 ?_);refine FA 4 ig lP ?_;refine LA 0 Y4 ?_;refine PS ?_;exact nx J2 (aj (WK [0] (aw rfl rfl ⟨rfl,rfl⟩)))
theorem D4(d m:Nat)(wv:Value)(ar dn:Bool)(lf n:Int):
 DT 61 #[(.pointer (some ⟨d,0,none⟩)),(.int .i64 (n))] T0 [am d [(.map (some m)),wv,(.bool (ar)),(.int .i64 (lf)),(.bool (dn))] 161] (dB (λ_ H=>H=[am d [(.map (some m)),wv,(.bool true),(.int .i64 ((max n 0))),(.bool (dn))] 161])):=by
 refine BD 12 Tryz.func61 rfl rfl rfl λw0 F hF=>ae (P3 ?_)
 refine tp (sS rfl rfl rfl) ?_;refine PS ?_;refine FA 2 ig lP ?_;refine S0 0 lP ?_;refine PS ?_;refine FA 3 ig aQ ?_;refine S0 0 aQ ?_;exact au (WK [0] (bG rfl rfl))
theorem D3:
 DT 54 #[] T0 [] (dB (λv H=>∃d m,v= .pointer (some ⟨d,0,none⟩)∧H=[am d [(.map (some m)),(.slice none 0 0),(.bool false),(.int .i64 0),(.bool false)] 161,kH m ([])])):=by
 refine BD 4 Tryz.func54 rfl rfl rfl λw0 F hF=>sr λ_ J1=>PS ?_
 refine nx J1 (sr λ_ J2=>TL.makeMap (ab rfl) rfl rfl rfl (λm1=>BV #[(.map (some m1)),(.slice none 0 0),(.bool false),(.int .i64 0),(.bool false)] ?_));refine XB λb3=>?_
 refine PS ?_;exact nx J2 (aj (WK [0,0] (aw rfl rfl ⟨b3,m1,rfl,rfl⟩)))
theorem BP(d m:Nat)(wv:Value)(s:fK)(ar dn:Bool)(lf at':Int)(hs:Whole s):
 DT 68 #[(.pointer (some ⟨d,0,none⟩)),(.int .i64 (at'))] T0 [am d [(.map (some m)),wv,(.bool (ar)),(.int .i64 (lf)),(.bool (dn))] 161,kH m (sD s)] (RI (C7 (fa s at')) [am d [(.map (some m)),wv,(.bool (ar)),(.int .i64 (lf)),(.bool (dn))] 161,kH m (sD s)]):=by
 refine BD 11 Tryz.func68 rfl rfl rfl λw0 F hF=>sr λ_ J1=>XA EJ λb4=>?_
 refine nx J1 (sr λ_ J2=>P2 ?_);refine FA 0 ig Cz ?_;refine LA 1 zn ?_;refine PS ?_;refine tp (PV.lookup rfl zn Y3 EJ rfl rfl (RdM.own 2 rfl rfl) (ye _ _)) ?_;exact bO (vs:=eB (fa s at')) (i:=0) (ab rfl) rfl rfl rfl rfl rfl (by rw[bh,cp hs];exact km) (fk _) rfl rfl (by rw[bh,cp hs];exact aI _) (gi (by rw[bh,cp hs];rfl)) rfl (nx J2 (aj (zq (H':=[am d [(.map (some m)),wv,(.bool (ar)),(.int .i64 (lf)),(.bool (dn))] 161,kH m (sD s)]) rfl rfl qm rfl km (RO 0) (by rw[bh];exact cp hs _) (λ_ s=>ak [1,1] rfl s) ⟨rfl,rfl⟩)))
theorem dK:Tryz.prog.follows .mixedOrders=true:=by kernel_rfl
theorem pZ(d m:Nat)(wv:Value)(s:fK)(ar dn:Bool)(lf at':Int)(b:List UInt8)(hb:b.length=64):
 DT 114 #[(.pointer (some ⟨d,0,none⟩)),(.int .i64 (at')),(.agg (eB b).toArray)] T0 [am d [(.map (some m)),wv,(.bool (ar)),(.int .i64 (lf)),(.bool (dn))] 161,kH m (sD s)] (dB (λ_ H=>H=[am d [(.map (some m)),wv,(.bool (ar)),(.int .i64 (lf)),(.bool (dn))] 161,kH m (sD (pa s at' b))])):=by
 refine BD 21 Tryz.func114 rfl rfl rfl λw0 F hF=>sr λ_ J1=>XY (eB b) λb5=>?_
 refine nx J1 (aa λ_ J2=>sr λ_ J3=>P2 ?_);refine FA 0 ig Cz ?_;refine LA 1 zn ?_;refine tp (PV.mapNil rfl zn rfl rfl) ?_;refine nx J3 (CN (qx J2 (D2 1 0 dK ?_)));refine PD 0 ?_;refine PD 1 ?_;refine FD 2 0 ig Cz ?_;refine LX 3 zn (.map (some m)) ?_ (hc:=by exact rfl);refine PD 4 ?_;refine ta 5 rfl (aO (vs:=eB b) rfl qm rfl km rfl (λ_ h=>h.2.2.1) (by rw[bh];exact hb) (by rw[ba,aB (by rw[bh,hb];exact aI _)])) ?_;refine AL 6 ?_;exact TL.mapUpdate (i:=2) (H':=[am b5 (eB b) 128,am d [(.map (some m)),wv,(.bool (ar)),(.int .i64 (lf)),(.bool (dn))] 161,kH m (sD (pa s at' b))]) (ab rfl) rfl rfl zn Y3 rfl rfl rfl rfl rfl (congrArg (λq=>List.set _ 2 (kH m q)) (Kq _ _ _)) (EN (DN (WK [1,1] (bG rfl rfl))))
theorem zf(d m:Nat)(wv:Value)(ws:fK)(ar dn:Bool)(lf at':Int)(x:Value)(bs:List UInt8)(hl:0≤lf∧lf≤9223372036854775807)(hw:ws.length≤1000000000):
 DT 70 #[(.pointer (some ⟨d,0,none⟩)),(.int .i64 (at')),x] (IsW x bs) [am d [(.map (some m)),wv,(.bool (ar)),(.int .i64 (lf)),(.bool (dn))] 161,own wv (ws.length) (dU ws) 187 65] (dB (λv H=>if at'<0∨2048≤at'∨64<bs.length then v= .int .i64 5∧H=[am d [(.map (some m)),wv,(.bool (ar)),(.int .i64 (lf)),(.bool (dn))] 161,own wv (ws.length) (dU ws) 187 65]else if dn=true∨(ar=true∧lf=0)then v= .int .i64 4∧H=[am d [(.map (some m)),wv,(.bool (ar)),(.int .i64 (lf)),(.bool true)] 161,own wv (ws.length) (dU ws) 187 65]else v= .int .i64 0∧∃wv',H=[am d [(.map (some m)),wv',(.bool (ar)),(.int .i64 ((if ar=true then lf-1 else lf))),(.bool false)] 161,own wv' ((ws++[(at',eV bs)]).length) (dU (ws++[(at',eV bs)])) 187 65])):=by
 refine BD 64 Tryz.func70 rfl rfl rfl λw0 F hF=>sr λ_ J1=>PS ?_
 refine nx J1 (aa λ_ J2=>sr λ_ J3=>P2 ?_);refine ao ?_ ?_<;>intro h9;refine PS ?_;refine UT ?_;refine UT ?_;refine P2 ?_
 iterate 3 refine UT ?_
 refine PS ?_;refine nx J3 (CY (sr λ_ J4=>PS ?_));refine nx J4 (aj (af (WK [0,0] (aw rfl rfl ?_))));show(if _ then _ else _)
 first
  | (rw[if_pos (by omega)];exact⟨rfl,rfl⟩)
  | (rw[if_neg (by omega),if_pos (by simp_all)];exact⟨rfl,by simp_all<;>rfl⟩)
  | (rw[if_neg (by omega),if_neg (by simp_all)];exact⟨rfl,v61,by simp_all<;>rfl⟩)
 refine P3 ?_;refine ao ?_ ?_<;>intro h12;refine P2 ?_
 iterate 3 refine UT ?_
 refine PS ?_;refine nx J3 (CY (sr λ_ J5=>PS ?_));refine nx J5 (aj (af (WK [0,0] (aw rfl rfl ?_))));show(if _ then _ else _)
 first
  | (rw[if_pos (by omega)];exact⟨rfl,rfl⟩)
  | (rw[if_neg (by omega),if_pos (by simp_all)];exact⟨rfl,by simp_all<;>rfl⟩)
  | (rw[if_neg (by omega),if_neg (by simp_all)];exact⟨rfl,v61,by simp_all<;>rfl⟩)
 refine P3 ?_;refine tq (ef rfl ic rfl hF.len) ?_;refine PS ?_;refine ao ?_ ?_<;>intro h17;refine PS ?_;refine nx J3 (CY (sr λ_ J6=>PS ?_));refine nx J6 (aj (af (WK [0,0] (aw rfl rfl ?_))));show(if _ then _ else _)
 first
  | (rw[if_pos (by omega)];exact⟨rfl,rfl⟩)
  | (rw[if_neg (by omega),if_pos (by simp_all)];exact⟨rfl,by simp_all<;>rfl⟩)
  | (rw[if_neg (by omega),if_neg (by simp_all)];exact⟨rfl,v61,by simp_all<;>rfl⟩)
 refine PS ?_;refine nx J3 (CN (qx J2 (aa λ_ J7=>sr λ_ J8=>P2 ?_)));refine FA 2 ig lP ?_;refine LA 0 Y4 ?_;refine bf ?_ ?_<;>intro h22;refine P3 ?_;refine FA 3 ig aQ ?_;refine LA 0 Y3 ?_;refine PS ?_;refine ao ?_ ?_<;>intro h28;refine PS ?_;refine nx J8 (CY (ae (P2 ?_)));refine FA 4 ig lP ?_;refine S0 0 lP ?_;refine nx J7 (aa λ_ J9=>sr λ_ J10=>P2 ?_);refine FA 4 ig lP ?_;refine LA 0 Y4 ?_;refine nx J10 (CY (sr λ_ J11=>PS ?_));refine nx J11 (aj (af (WK [0,0] (aw rfl rfl ?_))));show(if _ then _ else _)
 first
  | (rw[if_pos (by omega)];exact⟨rfl,rfl⟩)
  | (rw[if_neg (by omega),if_pos (by simp_all)];exact⟨rfl,by simp_all<;>rfl⟩)
  | (rw[if_neg (by omega),if_neg (by simp_all)];exact⟨rfl,v61,by simp_all<;>rfl⟩)
 refine PS ?_;refine nx J8 (CN (qx J7 (aa λ_ J12=>sr λ_ J13=>P2 ?_)));refine FA 4 ig lP ?_;refine LA 0 Y4 ?_;refine bf ?_ ?_<;>intro h36;refine nx J13 (CY (sr λ_ J14=>PS ?_));refine nx J14 (aj (af (WK [0,0] (aw rfl rfl ?_))));show(if _ then _ else _)
 first
  | (rw[if_pos (by omega)];exact⟨rfl,rfl⟩)
  | (rw[if_neg (by omega),if_pos (by simp_all)];exact⟨rfl,by simp_all<;>rfl⟩)
  | (rw[if_neg (by omega),if_neg (by simp_all)];exact⟨rfl,v61,by simp_all<;>rfl⟩)
 refine nx J13 (CN (qx J12 (aa λ_ J15=>sr λ_ J16=>P2 ?_)));refine FA 2 ig lP ?_;refine LA 0 Y4 ?_;refine bf ?_ ?_<;>intro h40;refine nx J16 (CY (ae (P2 ?_)));refine FA 3 ig aQ ?_;refine LA 0 Y3 ?_;refine tp (jC rfl rfl rfl (bX (by omega) (by omega))) ?_;refine PS ?_;refine FA 3 ig aQ ?_;refine S0 0 aQ ?_;refine nx J15 (sr λ_ J17=>PS ?_);refine BV (((.int .i64 (at'))::List.replicate 64 (.int .u8 0)).toArray) ?_;refine XA He λb7=>?_
 refine bO (vs:=((.int .i64 (at'))::List.replicate 64 (.int .u8 0))) (i:=0) (ab rfl) rfl rfl rfl rfl rfl mY (by simp[Value.oneCell']) rfl rfl (L8 rfl) rfl rfl (nx J17 (sr λ_ J18=>FA 1 p6 km ?_));refine tp (oH rfl qm mg rfl) ?_;refine PS ?_;refine Of (i:=0) (m:=bs.length) (news:=(eB bs)) (H':=[am b7 (df (at',eV bs)) 187,am d [(.map (some m)),wv,(.bool (ar)),(.int .i64 (lf-1)),(.bool (dn))] 161,own wv (ws.length) (dU ws) 187 65]) (ab rfl) rfl rfl rfl ic mg rfl rfl rfl rfl (λ_ _=>hF.src (λ_ h=>fN h)) (fk _) (by show 1+min bs.length 64≤65;omega) (AU (by omega)) rfl (nx J18 (aa λ_ J19=>D1 0 dK ?_));refine PD 0 ?_;refine PD 1 ?_;refine PD 2 ?_;refine FD 3 1 ig hX ?_;refine ta 5 rfl (aO (vs:=df (at',eV bs)) rfl p6 rfl mY rfl (λ_ h=>h.2.1) (cr (dO (by omega))) (by rw[ba,aB (by rw[(cr (dO (by omega)))];exact aI _)])) ?_;refine cX [4,6] (by kernel_rfl) rfl (aH rfl ?_ ?_);refine LA 1 jA ?_;refine EN (AL 6 ?_);refine aW (cells:=(df (at',eV bs)).toArray) (ab rfl) rfl rfl rfl jA m8 rfl rfl rfl (nr (cr (dO (by omega))) (by simp)) (λb60=>?_);change TL _ _ _ _ _ _ _ _ _ [am b60 (df (at',eV bs)) 187,am b7 (df (at',eV bs)) 187,am d [(.map (some m)),wv,(.bool (ar)),(.int .i64 (lf-1)),(.bool (dn))] 161,own wv (ws.length) (dU ws) 187 65];refine EN (AL 7 ?_)
 refine cS (k:=3) (news:=df (at',eV bs)) (nn':=(ws++[(at',eV bs)]).length) (xs':=dU (ws++[(at',eV bs)])) (ab rfl) rfl rfl rfl jA m8 rfl rfl rfl rfl rfl rfl (λ_ _=>kj (cr (dO (by omega))) (RO 0) (by rw[ba,aB (aI _)])) (jl _) (by simp only[maxLen];omega) (by omega) (by simp) (by simp[dU]) (λv61 ov61=>EN (PD 8 ?_));refine FD 9 1 ig hX ?_;refine AL 10 ?_;refine bI (i:=2) (ab rfl) rfl rfl rfl rfl ov61 hX rfl rfl (lb rfl) rfl rfl (EN (DN (ac J19 (sr λ_ J20=>PS ?_))));refine nx J20 (aj (WK [2,2] (aw rfl rfl ?_)));show(if _ then _ else _)
 first
  | (rw[if_pos (by omega)];exact⟨rfl,rfl⟩)
  | (rw[if_neg (by omega),if_pos (by simp_all)];exact⟨rfl,by simp_all<;>rfl⟩)
  | (rw[if_neg (by omega),if_neg (by simp_all)];exact⟨rfl,v61,by simp_all<;>rfl⟩)
 refine aH rfl ?_ ?_;refine aW (cells:=(df (at',eV bs)).toArray) (ab rfl) rfl rfl rfl jA m8 rfl rfl rfl (nr (cr (dO (by omega))) (by simp)) (λb60=>?_);change TL _ _ _ _ _ _ _ _ _ [am b60 (df (at',eV bs)) 187,am b7 (df (at',eV bs)) 187,am d [(.map (some m)),wv,(.bool (ar)),(.int .i64 (lf-1)),(.bool (dn))] 161,own wv (ws.length) (dU ws) 187 65];refine EN (AL 4 ?_);refine LA 2 jA ?_;refine EN (AL 7 ?_);refine cS (k:=3) (news:=df (at',eV bs)) (nn':=(ws++[(at',eV bs)]).length) (xs':=dU (ws++[(at',eV bs)])) (ab rfl) rfl rfl rfl jA m8 rfl rfl rfl rfl rfl rfl (λ_ _=>kj (cr (dO (by omega))) (RO 0) (by rw[ba,aB (aI _)])) (jl _) (by simp only[maxLen];omega) (by omega) (by simp) (by simp[dU]) (λv61 ov61=>EN (PD 8 ?_));refine FD 9 1 ig hX ?_;refine AL 10 ?_;refine bI (i:=2) (ab rfl) rfl rfl rfl rfl ov61 hX rfl rfl (lb rfl) rfl rfl (EN (DN (ac J19 (sr λ_ J21=>PS ?_))));refine nx J21 (aj (WK [2,2] (aw rfl rfl ?_)));show(if _ then _ else _)
 first
  | (rw[if_pos (by omega)];exact⟨rfl,rfl⟩)
  | (rw[if_neg (by omega),if_pos (by simp_all)];exact⟨rfl,by simp_all<;>rfl⟩)
  | (rw[if_neg (by omega),if_neg (by simp_all)];exact⟨rfl,v61,by simp_all<;>rfl⟩)
 exact bM;refine nx J16 (CN (qx J15 (sr λ_ J22=>PS ?_)));refine BV (((.int .i64 (at'))::List.replicate 64 (.int .u8 0)).toArray) ?_;refine XA He λb7=>?_
 refine bO (vs:=((.int .i64 (at'))::List.replicate 64 (.int .u8 0))) (i:=0) (ab rfl) rfl rfl rfl rfl rfl mY (by simp[Value.oneCell']) rfl rfl (L8 rfl) rfl rfl (nx J22 (sr λ_ J23=>FA 1 p6 km ?_));refine tp (oH rfl qm mg rfl) ?_;refine PS ?_;refine Of (i:=0) (m:=bs.length) (news:=(eB bs)) (H':=[am b7 (df (at',eV bs)) 187,am d [(.map (some m)),wv,(.bool (ar)),(.int .i64 (lf)),(.bool (dn))] 161,own wv (ws.length) (dU ws) 187 65]) (ab rfl) rfl rfl rfl ic mg rfl rfl rfl rfl (λ_ _=>hF.src (λ_ h=>fN h)) (fk _) (by show 1+min bs.length 64≤65;omega) (AU (by omega)) rfl (nx J23 (aa λ_ J24=>D1 0 dK ?_));refine PD 0 ?_;refine PD 1 ?_;refine PD 2 ?_;refine FD 3 1 ig hX ?_;refine ta 5 rfl (aO (vs:=df (at',eV bs)) rfl p6 rfl mY rfl (λ_ h=>h.2.1) (cr (dO (by omega))) (by rw[ba,aB (by rw[(cr (dO (by omega)))];exact aI _)])) ?_;refine cX [4,6] (by kernel_rfl) rfl (aH rfl ?_ ?_);refine LA 1 jA ?_;refine EN (AL 6 ?_);refine aW (cells:=(df (at',eV bs)).toArray) (ab rfl) rfl rfl rfl jA m8 rfl rfl rfl (nr (cr (dO (by omega))) (by simp)) (λb60=>?_);change TL _ _ _ _ _ _ _ _ _ [am b60 (df (at',eV bs)) 187,am b7 (df (at',eV bs)) 187,am d [(.map (some m)),wv,(.bool (ar)),(.int .i64 (lf)),(.bool (dn))] 161,own wv (ws.length) (dU ws) 187 65];refine EN (AL 7 ?_)
 refine cS (k:=3) (news:=df (at',eV bs)) (nn':=(ws++[(at',eV bs)]).length) (xs':=dU (ws++[(at',eV bs)])) (ab rfl) rfl rfl rfl jA m8 rfl rfl rfl rfl rfl rfl (λ_ _=>kj (cr (dO (by omega))) (RO 0) (by rw[ba,aB (aI _)])) (jl _) (by simp only[maxLen];omega) (by omega) (by simp) (by simp[dU]) (λv61 ov61=>EN (PD 8 ?_));refine FD 9 1 ig hX ?_;refine AL 10 ?_;refine bI (i:=2) (ab rfl) rfl rfl rfl rfl ov61 hX rfl rfl (lb rfl) rfl rfl (EN (DN (ac J24 (sr λ_ J25=>PS ?_))));refine nx J25 (aj (WK [2,2] (aw rfl rfl ?_)));show(if _ then _ else _)
 first
  | (rw[if_pos (by omega)];exact⟨rfl,rfl⟩)
  | (rw[if_neg (by omega),if_pos (by simp_all)];exact⟨rfl,by simp_all<;>rfl⟩)
  | (rw[if_neg (by omega),if_neg (by simp_all)];exact⟨rfl,v61,by simp_all<;>rfl⟩)
 refine aH rfl ?_ ?_;refine aW (cells:=(df (at',eV bs)).toArray) (ab rfl) rfl rfl rfl jA m8 rfl rfl rfl (nr (cr (dO (by omega))) (by simp)) (λb60=>?_);change TL _ _ _ _ _ _ _ _ _ [am b60 (df (at',eV bs)) 187,am b7 (df (at',eV bs)) 187,am d [(.map (some m)),wv,(.bool (ar)),(.int .i64 (lf)),(.bool (dn))] 161,own wv (ws.length) (dU ws) 187 65];refine EN (AL 4 ?_);refine LA 2 jA ?_;refine EN (AL 7 ?_);refine cS (k:=3) (news:=df (at',eV bs)) (nn':=(ws++[(at',eV bs)]).length) (xs':=dU (ws++[(at',eV bs)])) (ab rfl) rfl rfl rfl jA m8 rfl rfl rfl rfl rfl rfl (λ_ _=>kj (cr (dO (by omega))) (RO 0) (by rw[ba,aB (aI _)])) (jl _) (by simp only[maxLen];omega) (by omega) (by simp) (by simp[dU]) (λv61 ov61=>EN (PD 8 ?_));refine FD 9 1 ig hX ?_;refine AL 10 ?_;refine bI (i:=2) (ab rfl) rfl rfl rfl rfl ov61 hX rfl rfl (lb rfl) rfl rfl (EN (DN (ac J24 (sr λ_ J26=>PS ?_))));refine nx J26 (aj (WK [2,2] (aw rfl rfl ?_)));show(if _ then _ else _)
 first
  | (rw[if_pos (by omega)];exact⟨rfl,rfl⟩)
  | (rw[if_neg (by omega),if_pos (by simp_all)];exact⟨rfl,by simp_all<;>rfl⟩)
  | (rw[if_neg (by omega),if_neg (by simp_all)];exact⟨rfl,v61,by simp_all<;>rfl⟩)
 exact bM;refine PS ?_
 iterate 5 refine UF ?_
 refine PS ?_;refine nx J8 (CN (qx J7 (aa λ_ J27=>sr λ_ J28=>P2 ?_)));refine FA 4 ig lP ?_;refine LA 0 Y4 ?_;refine bf ?_ ?_<;>intro h36;refine nx J28 (CY (sr λ_ J29=>PS ?_));refine nx J29 (aj (af (WK [0,0] (aw rfl rfl ?_))));show(if _ then _ else _)
 first
  | (rw[if_pos (by omega)];exact⟨rfl,rfl⟩)
  | (rw[if_neg (by omega),if_pos (by simp_all)];exact⟨rfl,by simp_all<;>rfl⟩)
  | (rw[if_neg (by omega),if_neg (by simp_all)];exact⟨rfl,v61,by simp_all<;>rfl⟩)
 refine nx J28 (CN (qx J27 (aa λ_ J30=>sr λ_ J31=>P2 ?_)));refine FA 2 ig lP ?_;refine LA 0 Y4 ?_;refine bf ?_ ?_<;>intro h40;refine nx J31 (CY (ae (P2 ?_)));refine FA 3 ig aQ ?_;refine LA 0 Y3 ?_;refine tp (jC rfl rfl rfl (bX (by omega) (by omega))) ?_;refine PS ?_;refine FA 3 ig aQ ?_;refine S0 0 aQ ?_;refine nx J30 (sr λ_ J32=>PS ?_);refine BV (((.int .i64 (at'))::List.replicate 64 (.int .u8 0)).toArray) ?_;refine XA He λb7=>?_
 refine bO (vs:=((.int .i64 (at'))::List.replicate 64 (.int .u8 0))) (i:=0) (ab rfl) rfl rfl rfl rfl rfl mY (by simp[Value.oneCell']) rfl rfl (L8 rfl) rfl rfl (nx J32 (sr λ_ J33=>FA 1 p6 km ?_));refine tp (oH rfl qm mg rfl) ?_;refine PS ?_;refine Of (i:=0) (m:=bs.length) (news:=(eB bs)) (H':=[am b7 (df (at',eV bs)) 187,am d [(.map (some m)),wv,(.bool (ar)),(.int .i64 (lf-1)),(.bool (dn))] 161,own wv (ws.length) (dU ws) 187 65]) (ab rfl) rfl rfl rfl ic mg rfl rfl rfl rfl (λ_ _=>hF.src (λ_ h=>fN h)) (fk _) (by show 1+min bs.length 64≤65;omega) (AU (by omega)) rfl (nx J33 (aa λ_ J34=>D1 0 dK ?_));refine PD 0 ?_;refine PD 1 ?_;refine PD 2 ?_;refine FD 3 1 ig hX ?_;refine ta 5 rfl (aO (vs:=df (at',eV bs)) rfl p6 rfl mY rfl (λ_ h=>h.2.1) (cr (dO (by omega))) (by rw[ba,aB (by rw[(cr (dO (by omega)))];exact aI _)])) ?_;refine cX [4,6] (by kernel_rfl) rfl (aH rfl ?_ ?_);refine LA 1 jA ?_;refine EN (AL 6 ?_);refine aW (cells:=(df (at',eV bs)).toArray) (ab rfl) rfl rfl rfl jA m8 rfl rfl rfl (nr (cr (dO (by omega))) (by simp)) (λb60=>?_);change TL _ _ _ _ _ _ _ _ _ [am b60 (df (at',eV bs)) 187,am b7 (df (at',eV bs)) 187,am d [(.map (some m)),wv,(.bool (ar)),(.int .i64 (lf-1)),(.bool (dn))] 161,own wv (ws.length) (dU ws) 187 65];refine EN (AL 7 ?_)
 refine cS (k:=3) (news:=df (at',eV bs)) (nn':=(ws++[(at',eV bs)]).length) (xs':=dU (ws++[(at',eV bs)])) (ab rfl) rfl rfl rfl jA m8 rfl rfl rfl rfl rfl rfl (λ_ _=>kj (cr (dO (by omega))) (RO 0) (by rw[ba,aB (aI _)])) (jl _) (by simp only[maxLen];omega) (by omega) (by simp) (by simp[dU]) (λv61 ov61=>EN (PD 8 ?_));refine FD 9 1 ig hX ?_;refine AL 10 ?_;refine bI (i:=2) (ab rfl) rfl rfl rfl rfl ov61 hX rfl rfl (lb rfl) rfl rfl (EN (DN (ac J34 (sr λ_ J35=>PS ?_))));refine nx J35 (aj (WK [2,2] (aw rfl rfl ?_)));show(if _ then _ else _)
 first
  | (rw[if_pos (by omega)];exact⟨rfl,rfl⟩)
  | (rw[if_neg (by omega),if_pos (by simp_all)];exact⟨rfl,by simp_all<;>rfl⟩)
  | (rw[if_neg (by omega),if_neg (by simp_all)];exact⟨rfl,v61,by simp_all<;>rfl⟩)
 refine aH rfl ?_ ?_;refine aW (cells:=(df (at',eV bs)).toArray) (ab rfl) rfl rfl rfl jA m8 rfl rfl rfl (nr (cr (dO (by omega))) (by simp)) (λb60=>?_);change TL _ _ _ _ _ _ _ _ _ [am b60 (df (at',eV bs)) 187,am b7 (df (at',eV bs)) 187,am d [(.map (some m)),wv,(.bool (ar)),(.int .i64 (lf-1)),(.bool (dn))] 161,own wv (ws.length) (dU ws) 187 65];refine EN (AL 4 ?_);refine LA 2 jA ?_;refine EN (AL 7 ?_);refine cS (k:=3) (news:=df (at',eV bs)) (nn':=(ws++[(at',eV bs)]).length) (xs':=dU (ws++[(at',eV bs)])) (ab rfl) rfl rfl rfl jA m8 rfl rfl rfl rfl rfl rfl (λ_ _=>kj (cr (dO (by omega))) (RO 0) (by rw[ba,aB (aI _)])) (jl _) (by simp only[maxLen];omega) (by omega) (by simp) (by simp[dU]) (λv61 ov61=>EN (PD 8 ?_));refine FD 9 1 ig hX ?_;refine AL 10 ?_;refine bI (i:=2) (ab rfl) rfl rfl rfl rfl ov61 hX rfl rfl (lb rfl) rfl rfl (EN (DN (ac J34 (sr λ_ J36=>PS ?_))));refine nx J36 (aj (WK [2,2] (aw rfl rfl ?_)));show(if _ then _ else _)
 first
  | (rw[if_pos (by omega)];exact⟨rfl,rfl⟩)
  | (rw[if_neg (by omega),if_pos (by simp_all)];exact⟨rfl,by simp_all<;>rfl⟩)
  | (rw[if_neg (by omega),if_neg (by simp_all)];exact⟨rfl,v61,by simp_all<;>rfl⟩)
 exact bM;refine nx J31 (CN (qx J30 (sr λ_ J37=>PS ?_)));refine BV (((.int .i64 (at'))::List.replicate 64 (.int .u8 0)).toArray) ?_;refine XA He λb7=>?_
 refine bO (vs:=((.int .i64 (at'))::List.replicate 64 (.int .u8 0))) (i:=0) (ab rfl) rfl rfl rfl rfl rfl mY (by simp[Value.oneCell']) rfl rfl (L8 rfl) rfl rfl (nx J37 (sr λ_ J38=>FA 1 p6 km ?_));refine tp (oH rfl qm mg rfl) ?_;refine PS ?_;refine Of (i:=0) (m:=bs.length) (news:=(eB bs)) (H':=[am b7 (df (at',eV bs)) 187,am d [(.map (some m)),wv,(.bool (ar)),(.int .i64 (lf)),(.bool (dn))] 161,own wv (ws.length) (dU ws) 187 65]) (ab rfl) rfl rfl rfl ic mg rfl rfl rfl rfl (λ_ _=>hF.src (λ_ h=>fN h)) (fk _) (by show 1+min bs.length 64≤65;omega) (AU (by omega)) rfl (nx J38 (aa λ_ J39=>D1 0 dK ?_));refine PD 0 ?_;refine PD 1 ?_;refine PD 2 ?_;refine FD 3 1 ig hX ?_;refine ta 5 rfl (aO (vs:=df (at',eV bs)) rfl p6 rfl mY rfl (λ_ h=>h.2.1) (cr (dO (by omega))) (by rw[ba,aB (by rw[(cr (dO (by omega)))];exact aI _)])) ?_;refine cX [4,6] (by kernel_rfl) rfl (aH rfl ?_ ?_);refine LA 1 jA ?_;refine EN (AL 6 ?_);refine aW (cells:=(df (at',eV bs)).toArray) (ab rfl) rfl rfl rfl jA m8 rfl rfl rfl (nr (cr (dO (by omega))) (by simp)) (λb60=>?_);change TL _ _ _ _ _ _ _ _ _ [am b60 (df (at',eV bs)) 187,am b7 (df (at',eV bs)) 187,am d [(.map (some m)),wv,(.bool (ar)),(.int .i64 (lf)),(.bool (dn))] 161,own wv (ws.length) (dU ws) 187 65];refine EN (AL 7 ?_)
 refine cS (k:=3) (news:=df (at',eV bs)) (nn':=(ws++[(at',eV bs)]).length) (xs':=dU (ws++[(at',eV bs)])) (ab rfl) rfl rfl rfl jA m8 rfl rfl rfl rfl rfl rfl (λ_ _=>kj (cr (dO (by omega))) (RO 0) (by rw[ba,aB (aI _)])) (jl _) (by simp only[maxLen];omega) (by omega) (by simp) (by simp[dU]) (λv61 ov61=>EN (PD 8 ?_));refine FD 9 1 ig hX ?_;refine AL 10 ?_;refine bI (i:=2) (ab rfl) rfl rfl rfl rfl ov61 hX rfl rfl (lb rfl) rfl rfl (EN (DN (ac J39 (sr λ_ J40=>PS ?_))));refine nx J40 (aj (WK [2,2] (aw rfl rfl ?_)));show(if _ then _ else _)
 first
  | (rw[if_pos (by omega)];exact⟨rfl,rfl⟩)
  | (rw[if_neg (by omega),if_pos (by simp_all)];exact⟨rfl,by simp_all<;>rfl⟩)
  | (rw[if_neg (by omega),if_neg (by simp_all)];exact⟨rfl,v61,by simp_all<;>rfl⟩)
 refine aH rfl ?_ ?_;refine aW (cells:=(df (at',eV bs)).toArray) (ab rfl) rfl rfl rfl jA m8 rfl rfl rfl (nr (cr (dO (by omega))) (by simp)) (λb60=>?_);change TL _ _ _ _ _ _ _ _ _ [am b60 (df (at',eV bs)) 187,am b7 (df (at',eV bs)) 187,am d [(.map (some m)),wv,(.bool (ar)),(.int .i64 (lf)),(.bool (dn))] 161,own wv (ws.length) (dU ws) 187 65];refine EN (AL 4 ?_);refine LA 2 jA ?_;refine EN (AL 7 ?_);refine cS (k:=3) (news:=df (at',eV bs)) (nn':=(ws++[(at',eV bs)]).length) (xs':=dU (ws++[(at',eV bs)])) (ab rfl) rfl rfl rfl jA m8 rfl rfl rfl rfl rfl rfl (λ_ _=>kj (cr (dO (by omega))) (RO 0) (by rw[ba,aB (aI _)])) (jl _) (by simp only[maxLen];omega) (by omega) (by simp) (by simp[dU]) (λv61 ov61=>EN (PD 8 ?_));refine FD 9 1 ig hX ?_;refine AL 10 ?_;refine bI (i:=2) (ab rfl) rfl rfl rfl rfl ov61 hX rfl rfl (lb rfl) rfl rfl (EN (DN (ac J39 (sr λ_ J41=>PS ?_))));refine nx J41 (aj (WK [2,2] (aw rfl rfl ?_)));show(if _ then _ else _)
 first
  | (rw[if_pos (by omega)];exact⟨rfl,rfl⟩)
  | (rw[if_neg (by omega),if_pos (by simp_all)];exact⟨rfl,by simp_all<;>rfl⟩)
  | (rw[if_neg (by omega),if_neg (by simp_all)];exact⟨rfl,v61,by simp_all<;>rfl⟩)
 exact bM
theorem vi(d m:Nat)(wv:Value)(ar:Bool)(lf:Int):
 DT 71 #[(.pointer (some ⟨d,0,none⟩))] T0 [am d [(.map (some m)),wv,(.bool (ar)),(.int .i64 (lf)),(.bool true)] 161] (RI (.int .i64 4) [am d [(.map (some m)),wv,(.bool (ar)),(.int .i64 (lf)),(.bool true)] 161]):=by
 refine BD 28 Tryz.func71 rfl rfl rfl λw0 F hF=>sr λ_ J1=>PS ?_
 refine nx J1 (aa λ_ J2=>sr λ_ J3=>P2 ?_);refine FA 4 ig lP ?_;refine LA 0 Y4 ?_;refine nx J3 (CY (sr λ_ J4=>PS ?_));exact nx J4 (aj (af (WK [0] (aw rfl rfl ⟨rfl,rfl⟩))))
theorem yv(d m:Nat)(wv:Value)(s ws:fK)(ar:Bool)(lf:Int)(hw:Whole ws):
 DT 71 #[(.pointer (some ⟨d,0,none⟩))] T0 [am d [(.map (some m)),wv,(.bool (ar)),(.int .i64 (lf)),(.bool false)] 161,kH m (sD s),own wv (ws.length) (dU ws) 187 65] (RI (.int .i64 0) [am d [(.map (some m)),(.slice none 0 0),(.bool (ar)),(.int .i64 (lf)),(.bool false)] 161,kH m (sD (DE s ws ws.length)),own (.slice none 0 0) 0 [] 187 65]):=by
 refine BD 28 Tryz.func71 rfl rfl rfl λw0 F hF=>sr λ_ J1=>kO 2 rfl rfl (λhwl _=>PS ?_)
 refine nx J1 (aa λ_ J2=>sr λ_ J3=>P2 ?_);refine FA 4 ig lP ?_;refine LA 0 Y4 ?_;refine nx J3 (CN (qx J2 (aa λ_ J4=>sr λ_ J5=>P2 ?_)));refine FA 1 ig hX ?_;refine LA 0 jA ?_;refine tp (ef rfl jA rfl hwl) ?_;refine PS ?_;refine nx J5 (aq ?_)
 refine bA (α:=(Nat)×(fK)) (λ⟨k,s'⟩=>k≤ws.length∧s'=DE s ws k) (λ⟨k,s'⟩=>[(0,(.pointer (some ⟨d,0,none⟩))),(2,(.int .i64 0)),(12,wv),(13,(.int .i64 (((ws.length:Nat):Int)))),(14,(.int .i64 (((k:Nat):Int))))]) (λ⟨k,s'⟩=>[am d [(.map (some m)),wv,(.bool (ar)),(.int .i64 (lf)),(.bool false)] 161,kH m (sD s'),own wv (ws.length) (dU ws) 187 65]) (λ⟨k,s'⟩=>ws.length-k) (0,s)
  ⟨aN _,rfl⟩ SB
  (λ_ s=>s) (λ⟨k,s'⟩ hinv=>?_)
 obtain⟨hk,hs'⟩:=hinv;refine sr λ_ J6=>PS ?_
 refine ao ?_ ?_<;>intro h15;refine j5 2 rfl rfl (by omega) (λg cap hv hcap=>nx J6 (aa λ_ J7=>CY (qx J7 (aa λ_ J8=>aq (sr λ_ J9=>tp (bU (r:=k*65) hv rfl jA mY rfl rfl (by omega) (by omega) (by omega)) ?_)))));refine tp (Rl (vs:=df (kY ws k)) rfl p6 rfl mY rfl (gC 2 rfl hv rfl) (cr (dY hw (by omega))) (ri hw (by omega))) ?_;refine XA He λb4=>?_
 refine bO (vs:=df (kY ws k)) (i:=0) (ab rfl) rfl rfl rfl rfl rfl (by rw[cr (dY hw (by omega))];exact mY) (jl _) rfl rfl (by rw[cr (dY hw (by omega))];exact aI _) (gi (Eq.trans (rfl:_=65) (by rw[cr (dY hw (by omega))]:(df (kY ws k)).length=65).symm)) rfl (nx J9 (ae (PS ?_)));refine FA 0 p6 aQ ?_;refine LA 0 Y3 ?_;refine FA 1 p6 km ?_;refine tp (aO (vs:=eB (kY ws k).2) rfl qm rfl km rfl (RO 0) (by rw[bh];exact dY hw (by omega)) (w3 (dY hw (by omega)))) ?_;refine CR Kb (pZ d m wv s' ar false lf ((kY ws k).1) (kY ws k).2 (by exact dY hw (by omega))) (SM [1,1]) λvR HR hR=>?_
 subst hR;refine au (ag (ac J8 (ae (AD ?_))));refine PS ?_;refine au ?_
 exact aK ((k+1,pa s' (kY ws k).1 (kY ws k).2):(Nat)×(fK)) ⟨by omega,by rw[hs'];rfl⟩ (by show ws.length- (k+1)<ws.length-k;omega)
  SB
  (λ_ s=>ak [0,0,1] rfl s)
 refine nx J6 (aa λ_ J10=>CN (aX (aA (aA (bu (ac J4 (sr λ_ J11=>P2 ?_)))))));refine FA 1 ig hX ?_;refine S0 0 hX ?_;refine nx J11 (sr λ_ J12=>PS ?_);refine nx J12 (aj (aF (H':=[am d [(.map (some m)),(.slice none 0 0),(.bool (ar)),(.int .i64 (lf)),(.bool false)] 161,kH m (sD s'),own (.slice none 0 0) 0 [] 187 65]) (dE _) (λ_ s=>eG (List.Perm.trans (List.Perm.swap _ _ _) (List.Perm.cons _ (List.Perm.swap _ _ _))) (iq 187 65 (ak [0,0] rfl s))) (aw rfl rfl ?_)));obtain rfl:k=ws.length:=by omega
 subst hs';exact⟨rfl,rfl⟩
theorem BQ(d m:Nat)(wv:Value)(s ws:fK)(ar dn:Bool)(lf at':Int)(hs2:Whole s)(hw:Whole ws)(hb:ws.length≤1000000000):
 DT 130 #[(.pointer (some ⟨d,0,none⟩)),(.int .i64 (at'))] T0 [am d [(.map (some m)),wv,(.bool (ar)),(.int .i64 (lf)),(.bool (dn))] 161,kH m (sD s),own wv (ws.length) (dU ws) 187 65] (RI (C7 (jb s ws at' ws.length)) [am d [(.map (some m)),wv,(.bool (ar)),(.int .i64 (lf)),(.bool (dn))] 161,kH m (sD s),own wv (ws.length) (dU ws) 187 65]):=by
 refine BD 40 Tryz.func130 rfl rfl rfl λw0 F hF=>sr λ_ J1=>kO 2 rfl rfl (λhwl _=>XA EJ λb4=>?_)
 refine nx J1 (aa λ_ J2=>sr λ_ J3=>P2 ?_);refine FA 1 ig hX ?_;refine LA 1 jA ?_;refine tp (ef rfl jA rfl hwl) ?_;refine tp (jC rfl rfl rfl (bX (by omega) (by omega))) ?_;refine PS ?_;refine nx J3 (aq ?_)
 refine bA (α:=(Int)) (λp=> -1≤p∧p<ws.length∧jb s ws at' (p+1).toNat=jb s ws at' ws.length) (λp=>[(0,(.pointer (some ⟨d,0,none⟩))),(1,(.int .i64 (at'))),(4,(.pointer (some ⟨b4,0,none⟩))),(5,(.int .i64 (p)))]) (λp=>[am b4 [(.int .u8 0),(.int .u8 0),(.int .u8 0),(.int .u8 0),(.int .u8 0),(.int .u8 0),(.int .u8 0),(.int .u8 0),(.int .u8 0),(.int .u8 0),(.int .u8 0),(.int .u8 0),(.int .u8 0),(.int .u8 0),(.int .u8 0),(.int .u8 0),(.int .u8 0),(.int .u8 0),(.int .u8 0),(.int .u8 0),(.int .u8 0),(.int .u8 0),(.int .u8 0),(.int .u8 0),(.int .u8 0),(.int .u8 0),(.int .u8 0),(.int .u8 0),(.int .u8 0),(.int .u8 0),(.int .u8 0),(.int .u8 0),(.int .u8 0),(.int .u8 0),(.int .u8 0),(.int .u8 0),(.int .u8 0),(.int .u8 0),(.int .u8 0),(.int .u8 0),(.int .u8 0),(.int .u8 0),(.int .u8 0),(.int .u8 0),(.int .u8 0),(.int .u8 0),(.int .u8 0),(.int .u8 0),(.int .u8 0),(.int .u8 0),(.int .u8 0),(.int .u8 0),(.int .u8 0),(.int .u8 0),(.int .u8 0),(.int .u8 0),(.int .u8 0),(.int .u8 0),(.int .u8 0),(.int .u8 0),(.int .u8 0),(.int .u8 0),(.int .u8 0),(.int .u8 0)] 128,am d [(.map (some m)),wv,(.bool (ar)),(.int .i64 (lf)),(.bool (dn))] 161,kH m (sD s),own wv (ws.length) (dU ws) 187 65]) (λp=>(p+1).toNat) (((ws.length:Nat):Int)-1)
  ⟨by omega,by omega,by congr 1;omega⟩ SB
  (λ_ s=>s) (λp hinv=>?_)
 obtain⟨hp1,hp2,hp3⟩:=hinv;refine aa λ_ J4=>sr λ_ J5=>P2 ?_
 refine ao ?_ ?_<;>intro h13;refine j5 3 rfl rfl (by omega) (λg cap hv hcap=>nx J5 (CY (qx J4 (aa λ_ J6=>aq (sr λ_ J7=>P2 ?_)))));refine FA 1 ig hX ?_;refine LA 1 jA ?_;refine PS ?_;refine tp (bU (r:=p.toNat*65) hv rfl jA mY rfl rfl (by omega) (by omega) (by omega)) ?_;refine tp (bc (r:=p.toNat*65) rfl p6 rfl aQ rfl rfl) ?_;refine tp (dr (v:=(.int .i64 ((kY ws p.toNat).1))) rfl Y3 rfl rfl (gC 3 rfl hv rfl) (Hk hw (by omega))) ?_;refine P2 ?_;refine ao ?_ ?_<;>intro h25;refine nx J7 (CY (sr λ_ J8=>P2 ?_));refine FA 1 ig hX ?_;refine LA 1 jA ?_;refine PS ?_;refine tp (bU (r:=p.toNat*65) hv rfl jA mY rfl rfl (by omega) (by omega) (by omega)) ?_;refine tp (bc (r:=p.toNat*65+1) rfl p6 rfl km rfl rfl) ?_;refine tp (Rl (vs:=eB (kY ws p.toNat).2) rfl qm rfl km rfl (gC 3 rfl hv rfl) (by rw[bh];exact dY hw (by omega)) (Hj hw (by omega))) ?_;refine bO (vs:=eB (kY ws p.toNat).2) (i:=0) (ab rfl) rfl rfl rfl rfl rfl (by rw[bh,dY hw (by omega)];exact km) (fk _) rfl rfl (by rw[bh,dY hw (by omega)];exact aI _) (gi (Eq.trans (rfl:_=64) (by rw[bh,dY hw (by omega)]:(eB (kY ws p.toNat).2).length=64).symm)) rfl (nx J8 (aj (aL (af (af (aL (af (zq (H':=[am d [(.map (some m)),wv,(.bool (ar)),(.int .i64 (lf)),(.bool (dn))] 161,kH m (sD s),own wv (ws.length) (dU ws) 187 65]) rfl rfl qm rfl km (RO 0) (by rw[bh];exact dY hw (by omega)) (λ_ s=>ak [1,1,1] rfl s) ?_))))))));have e:=HT (s:=s) h25
 rw[show p.toNat+1=(p+1).toNat by omega,hp3]at e;exact⟨by rw[e];rfl,rfl⟩;refine nx J7 (CN (aU (ag (ac J6 (ae (PS ?_))))));refine tp (jC rfl rfl rfl (bX (by omega) (by omega))) ?_;refine PS ?_;refine au ?_
 exact aK ((p-1):(Int)) ⟨by omega,by omega,by rw[←hp3,show(p+1).toNat=p.toNat+1 by omega,Fh h25];congr 1;omega⟩ (by show(p-1+1).toNat< (p+1).toNat;omega)
  SB
  (λ_ s=>s)
 refine nx J5 (CN (aX (aA (aA (bu (ac J2 (sr λ_ J9=>P2 ?_)))))));refine FA 0 ig Cz ?_;refine LA 1 zn ?_;refine PS ?_;refine tp (PV.lookup rfl zn Y3 EJ rfl rfl (RdM.own 2 rfl rfl) (ye _ _)) ?_;refine bO (vs:=eB (fa s at')) (i:=0) (ab rfl) rfl rfl rfl rfl rfl (by rw[bh,cp hs2];exact km) (fk _) rfl rfl (by rw[bh,cp hs2];exact aI _) (gi (Eq.trans (rfl:_=64) (by rw[bh,cp hs2]:(eB (fa s at')).length=64).symm)) rfl (nx J9 (aj (zq (H':=[am d [(.map (some m)),wv,(.bool (ar)),(.int .i64 (lf)),(.bool (dn))] 161,kH m (sD s),own wv (ws.length) (dU ws) 187 65]) rfl rfl qm rfl km (RO 0) (by rw[bh];exact cp hs2 _) (λ_ s=>ak [1,1,1] rfl s) ?_)));rw[show(p+1).toNat=0 by omega]at hp3;exact⟨by rw[←hp3];rfl,rfl⟩
theorem zg(d m:Nat)(wv:Value)(s ws:fK)(ar dn:Bool)(lf mask torn n:Int)(hs1:Whole s)(hw:Whole ws):
 DT 62 #[(.pointer (some ⟨d,0,none⟩)),(.int .i64 (mask)),(.int .i64 (torn)),(.int .i64 (n))] T0 [am d [(.map (some m)),wv,(.bool (ar)),(.int .i64 (lf)),(.bool (dn))] 161,kH m (sD s),own wv (ws.length) (dU ws) 187 65] (dB (λ_ H=>H=[am d [(.map (some m)),(.slice none 0 0),(.bool false),(.int .i64 0),(.bool false)] 161,kH m (sD (gO mask torn (nw n) s ws ws.length)),own (.slice none 0 0) 0 [] 187 65])):=by
 refine BD 70 Tryz.func62 rfl rfl rfl λw0 F hF=>sr λ_ J1=>kO 2 rfl rfl (λhwl _=>PS ?_)
 refine tp (sS rfl rfl rfl) ?_;refine tp (Rj (v':=(.int .i64 (((nw n:Nat):Int)))) (PV.minI rfl rfl rfl) (congrArg (Value.int .i64) (Mj n))) ?_;refine PS ?_;refine nx J1 (aa λ_ J2=>sr λ_ J3=>P2 ?_);refine FA 1 ig hX ?_;refine LA 0 jA ?_;refine tp (ef rfl jA rfl hwl) ?_;refine PS ?_;refine nx J3 (aq ?_)
 refine bA (α:=(Nat)×(fK)) (λ⟨k,s'⟩=>k≤ws.length∧s'=gO mask torn (nw n) s ws k) (λ⟨k,s'⟩=>[(0,(.pointer (some ⟨d,0,none⟩))),(1,(.int .i64 (mask))),(2,(.int .i64 (torn))),(3,(.int .i64 (((nw n:Nat):Int)))),(17,wv),(18,(.int .i64 (((ws.length:Nat):Int)))),(19,(.int .i64 (((k:Nat):Int))))]) (λ⟨k,s'⟩=>[am d [(.map (some m)),wv,(.bool (ar)),(.int .i64 (lf)),(.bool (dn))] 161,kH m (sD s'),own wv (ws.length) (dU ws) 187 65]) (λ⟨k,s'⟩=>ws.length-k) (0,s)
  ⟨aN _,rfl⟩ SB
  (λ_ s=>s) (λ⟨k,s'⟩ hinv=>?_)
 obtain⟨hk,hs'⟩:=hinv;have hs2:Whole s':=by rw[hs'];exact hs1.crash hw k hk
 have hcn:=nv n;refine sr λ_ J4=>PS ?_
 refine ao ?_ ?_<;>intro h20;refine j5 2 rfl rfl (by omega) (λg cap hv hcap=>nx J4 (aa λ_ J5=>CY (qx J5 (aa λ_ J6=>aq (sr λ_ J7=>PS ?_)))));refine tp (bU (r:=k*65) hv rfl jA mY rfl rfl (by omega) (by omega) (by omega)) ?_;refine tp (Rl (vs:=df (kY ws k)) rfl p6 rfl mY rfl (gC 2 rfl hv rfl) (cr (dY hw (by omega))) (ri hw (by omega))) ?_;refine XA He λb9=>?_
 refine PS ?_;refine bO (vs:=df (kY ws k)) (i:=0) (ab rfl) rfl rfl rfl rfl rfl (by rw[cr (dY hw (by omega))];exact mY) (jl _) rfl rfl (by rw[cr (dY hw (by omega))];exact aI _) (gi (Eq.trans (rfl:_=65) (by rw[cr (dY hw (by omega))]:(df (kY ws k)).length=65).symm)) rfl (nx J7 (sr λ_ J8=>P3 ?_));refine ao ?_ ?_<;>intro h26;refine nx J8 (CY (aa λ_ J9=>sO (λw=>Frm F w∧w.heap[d]?=some (.cells ([(.map (some m)),wv,(.bool (ar)),(.int .i64 (lf)),(.bool (dn))]).toArray 161 (0,0))∧Hm m (sD s') w∧w.heap[b9]?=some (.cells (df (kY ws k)).toArray 187 (0,0))∧True) dK rfl (λ_ s=>⟨fN s,s.block 1 (lb rfl) rfl,s.map 2 rfl rfl,s.block 0 (lb rfl) rfl,trivial⟩) (PD 0 ?_)));refine PD 1 ?_;refine FD 2 0 ig Cz ?_;refine LX 3 zn (.map (some m)) ?_ (hc:=by exact rfl);refine FD 4 0 p6 aQ ?_;refine LX 5 Y3 (.int .i64 ((kY ws k).1)) ?_ (hc:=by exact rfl);refine ta 6 rfl (PV.lookup rfl zn Y3 EJ rfl rfl (λ_ h=>h.2.2.1) (ye _ _)) ?_;refine AL 7 ?_;refine XA EJ λb10=>?_
 refine au (wo (λ_ s=>⟨fN s,s.block 2 (lb rfl) rfl,s.map 3 rfl rfl,s.block 1 (lb rfl) rfl,trivial⟩) (AL 8 ?_));refine bO (vs:=eB (fa s' ((kY ws k).1))) (i:=0) (ab rfl) rfl rfl rfl rfl rfl (by rw[bh,cp hs2];exact km) (fk _) rfl rfl (by rw[bh,cp hs2];exact aI _) (gi (Eq.trans (rfl:_=64) (by rw[bh,cp hs2]:(eB (fa s' ((kY ws k).1))).length=64).symm)) rfl (au (wo (λ_ s=>⟨fN s,s.block 2 (lb rfl) rfl,s.map 3 rfl rfl,s.block 1 (lb rfl) rfl,trivial⟩) (DN (ac J9 (aa λ_ J10=>D1 1 dK ?_)))));refine PD 0 ?_;refine ta 1 rfl (Re (k:=nw n) rfl qm mg rfl rfl (by omega) (by omega) rfl) ?_;refine FD 2 1 p6 km ?_;refine PD 3 ?_;refine ta 4 rfl (Re (k:=nw n) rfl qm mg rfl rfl (by omega) (by omega) rfl) ?_;refine AL 5 ?_;refine Of (i:=0) (m:=nw n) (news:=((eB (kY ws k).2).take (nw n))) (H':=[am b10 (eB (lU (fa s' ((kY ws k).1)) (kY ws k).2 (nw n))) 128,am b9 (df (kY ws k)) 187,am d [(.map (some m)),wv,(.bool (ar)),(.int .i64 (lf)),(.bool (dn))] 161,kH m (sD s'),own wv (ws.length) (dU ws) 187 65]) (ab rfl) rfl rfl rfl ic mg rfl rfl rfl rfl (λ_ _=>kj (by rw[bq,bh,dY hw (by omega)];have:=nv n;omega) (RO 1) (by rw[bq,bh,dY hw (by omega)];exact Cp (dY hw (by omega)) (nv n))) (λu hu=>fk _ u (mL hu)) (by rw[bh,cp hs2];have:=nv n;omega) (Hs (nv n) (cp hs2 _) (dY hw (by omega)) (by omega)) rfl (EN (DN (ac J10 (ae (PS ?_)))));refine FA 0 p6 aQ ?_;refine LA 1 Y3 ?_
 refine tp (aO (vs:=eB (lU (fa s' ((kY ws k).1)) (kY ws k).2 (nw n))) rfl qm rfl km rfl (RO 0) (by rw[bh];exact o6 (cp hs2 _) (dY hw (by omega))) (xb (by rw[bh];exact o6 (cp hs2 _) (dY hw (by omega))))) ?_;refine CR Kb (pZ d m wv s' ar (dn) lf ((kY ws k).1) (lU (fa s' ((kY ws k).1)) (kY ws k).2 (nw n)) (by exact o6 (cp hs2 _) (dY hw (by omega)))) (SM [2,2]) λvR HR hR=>?_
 subst hR;refine au (ag (ac J6 (ae (AD ?_))));refine PS ?_;refine au ?_
 exact aK ((k+1,pa s' (kY ws k).1 (lU (fa s' (kY ws k).1) (kY ws k).2 (nw n))):(Nat)×(fK)) ⟨by omega,by rw[hs',gO,kh,if_pos h26]⟩ (by show ws.length- (k+1)<ws.length-k;omega)
  SB
  (λ_ s=>ak [0,0,2] rfl s)
 refine nx J8 (CN (sr λ_ J11=>P2 ?_));refine tp (PV.rem (r:=((k%32:Nat):Int)) rfl rfl rfl (by omega) (by rw[show(32:Int)=((32:Nat):Int)from rfl,←Int.ofNat_tmod])) ?_;refine tp (mI (r:=mask.fdiv (2^ (k%32))) rfl rfl rfl (by omega) (by congr 2;show min ((k%32:Nat):Int).toNat 64=k%32;omega)) ?_;refine tp (wF (r:=mask.fdiv (2^ (k%32))%2) rfl rfl rfl (Q5 _)) ?_;refine PS ?_;refine ao ?_ ?_<;>intro h50;refine nx J11 (CY (ae (PS ?_)));refine FA 0 p6 aQ ?_;refine LA 0 Y3 ?_;refine FA 1 p6 km ?_;refine tp (aO (vs:=eB (kY ws k).2) rfl qm rfl km rfl (RO 0) (by rw[bh];exact dY hw (by omega)) (w3 (dY hw (by omega)))) ?_;refine CR Kb (pZ d m wv s' ar (dn) lf ((kY ws k).1) (kY ws k).2 (by exact dY hw (by omega))) (SM [1,1]) λvR HR hR=>?_
 subst hR;refine au (ag (ac J6 (ae (AD ?_))));refine PS ?_;refine au ?_
 exact aK ((k+1,pa s' (kY ws k).1 (kY ws k).2):(Nat)×(fK)) ⟨by omega,by rw[hs',gO,kh,if_neg h26,if_pos h50]⟩ (by show ws.length- (k+1)<ws.length-k;omega)
  SB
  (λ_ s=>ak [0,0,1] rfl s)
 refine nx J11 (CN (aU (ag (ac J6 (ae (AD ?_))))));refine PS ?_;refine au ?_
 exact aK ((k+1,s'):(Nat)×(fK)) ⟨by omega,by rw[gO,kh,if_neg h26,if_neg h50];exact hs'⟩ (by show ws.length- (k+1)<ws.length-k;omega)
  SB
  (λ_ s=>ak [1,1,1] rfl s)
 refine nx J4 (aa λ_ J12=>CN (aX (aA (aA (bu (ac J2 (ae ?_)))))))
 iterate 5 refine PS ?_
 refine FA 1 ig hX ?_;refine S0 0 hX ?_;refine PS ?_;refine FA 2 ig lP ?_;refine S0 0 lP ?_;refine PS ?_;refine FA 3 ig aQ ?_;refine S0 0 aQ ?_;refine PS ?_;refine FA 4 ig lP ?_;refine S0 0 lP ?_;refine au (aF (H':=[am d [(.map (some m)),(.slice none 0 0),(.bool false),(.int .i64 0),(.bool false)] 161,kH m (sD s'),own (.slice none 0 0) 0 [] 187 65]) (dE _) (λ_ s=>eG (List.Perm.trans (List.Perm.swap _ _ _) (List.Perm.cons _ (List.Perm.swap _ _ _))) (iq 187 65 (ak [0,0] rfl s))) (bG rfl ?_));obtain rfl:k=ws.length:=by omega
 subst hs';exact rfl
theorem ME:Tryz.prog.eqGuardType Tryz.prog.depth 128=false:=by kernel_rfl
theorem MD:Tryz.prog.keyTypeAt 2 128=true:=by kernel_rfl
theorem MF:lW Tryz.prog 2 128=some (List.replicate 64 (some .u8)):=by kernel_rfl
theorem MH:En Tryz.prog 128=true:=by kernel_rfl
theorem MG:Tryz.prog.cellsOf 128=64:=by kernel_rfl
abbrev dk(d:Nat)(D:DS):HP:=PC 161 187 d D
theorem G3(d:Nat)(D:DS):DT 57 #[(.pointer (some ⟨d,0,none⟩))] T0 [dk d D] (RI (.bool D.dn) [dk d (D)]):=Leg.Does.pack (B:=[]) λ⟨m,wv⟩=>
 Leg.Does.withinR (BR d m wv D.ar D.dn D.lf) (B:=[kH m (sD D.s),own wv D.ws.length (dU D.ws) 187 65]) (λ_ _ _ _=>trivial) (λ_ s=>s) (λv H h=>by
  obtain⟨rfl,rfl⟩:=h
  exact⟨_,λ_ s=>br (H:=[]) (m,wv) (s),rfl,rfl⟩)
theorem N2(d:Nat)(D:DS)(n:Int):DT 61 #[(.pointer (some ⟨d,0,none⟩)), .int .i64 n] T0 [dk d D] (dB (λv H=>True∧H=[dk d (D.arm n)])):=Leg.Does.pack (B:=[]) λ⟨m,wv⟩=>
 Leg.Does.withinR (D4 d m wv D.ar D.dn D.lf n) (B:=[kH m (sD D.s),own wv D.ws.length (dU D.ws) 187 65]) (λ_ _ _ _=>trivial) (λ_ s=>s) (λv H h=>by
  subst h
  exact⟨_,λ_ s=>br (H:=[]) (m,wv) s,trivial,rfl⟩)
theorem Me(d:Nat)(D:DS)(at':Int)(hD:D.Ok):DT 68 #[(.pointer (some ⟨d,0,none⟩)), .int .i64 at'] T0 [dk d D] (RI (C7 (fa D.s at')) [dk d (D)]):=Leg.Does.pack (B:=[]) λ⟨m,wv⟩=>
 Leg.Does.withinR (BP d m wv D.s D.ar D.dn D.lf at' hD.s) (B:=[own wv D.ws.length (dU D.ws) 187 65]) (λ_ _ _ _=>trivial) (λ_ s=>s) (λv H h=>by
  obtain⟨rfl,rfl⟩:=h
  exact⟨_,λ_ s=>br (H:=[]) (m,wv) (s),rfl,rfl⟩)
theorem BU(d:Nat)(D:DS)(at':Int)(hD:D.Ok)(hb:D.ws.length≤1000000000):DT 130 #[(.pointer (some ⟨d,0,none⟩)), .int .i64 at'] T0 [dk d D] (RI (C7 (D.read at')) [dk d (D)]):=Leg.Does.pack (B:=[]) λ⟨m,wv⟩=>
 Leg.Does.withinR (BQ d m wv D.s D.ws D.ar D.dn D.lf at' hD.s hD.ws hb) (B:=[]) (λ_ _ _ _=>trivial) (λ_ s=>s) (λv H h=>by
  obtain⟨rfl,rfl⟩:=h
  exact⟨_,λ_ s=>br (H:=[]) (m,wv) (s),rfl,rfl⟩)
theorem D8(d:Nat)(D:DS)(mask torn n:Int)(hD:D.Ok):DT 62 #[(.pointer (some ⟨d,0,none⟩)), .int .i64 mask, .int .i64 torn, .int .i64 n] T0 [dk d D] (dB (λv H=>True∧H=[dk d (D.crash mask torn n)])):=Leg.Does.pack (B:=[]) λ⟨m,wv⟩=>
 Leg.Does.withinR (zg d m wv D.s D.ws D.ar D.dn D.lf mask torn n hD.s hD.ws) (B:=[]) (λ_ _ _ _=>trivial) (λ_ s=>s) (λv H h=>by
  subst h
  exact⟨_,λ_ s=>br (H:=[]) (m,(.slice none 0 0:Value)) s,trivial,rfl⟩)
theorem yw(d:Nat)(D:DS)(at':Int)(x:Value)(bs:List UInt8)(hD:D.Ok)(hb:D.ws.length≤1000000000):DT 70 #[(.pointer (some ⟨d,0,none⟩)), .int .i64 at',x] (IsW x bs) [dk d D] (RI (.int .i64 (D.write at' bs).1) [dk d ((D.write at' bs).2)]):=Leg.Does.pack (B:=[]) λ⟨m,wv⟩=>
 Leg.Does.withinR (zf d m wv D.ws D.ar D.dn D.lf at' x bs hD.lf hb) (B:=[kH m (sD D.s)]) (λ_ _ h d=>h.more d) (λ_ s=>aD [0,1] rfl s) (λv H h=>by
  unfold DS.write;replace h:(if at'<0∨2048≤at'∨64<bs.length then _ else _):=h;split at h<;>rename_i h1
  · rw[if_pos h1]
    obtain⟨rfl,rfl⟩:=h;exact⟨_,λ_ s=>br (H:=[]) (m,wv) (aD [0,1] rfl s),rfl,rfl⟩
  · rw[if_neg h1]
    split at h<;>rename_i h2
    · rw[if_pos h2]
      obtain⟨rfl,rfl⟩:=h;exact⟨_,λ_ s=>br (H:=[]) (m,wv) (aD [0,1] rfl s),rfl,rfl⟩
    · rw[if_neg h2]
      obtain⟨rfl,wv',rfl⟩:=h
      exact⟨_,λ_ s=>br (H:=[]) (m,wv') (aD [0,1] rfl s),rfl,rfl⟩)
theorem BS(d:Nat)(D:DS)(hD:D.Ok):DT 71 #[(.pointer (some ⟨d,0,none⟩))] T0 [dk d D] (RI (.int .i64 D.sync.1) [dk d D.sync.2]):=by
 obtain⟨s,ws,ar,lf,dn⟩:=D;cases dn
 · exact Leg.Does.pack (B:=[]) λ⟨m,wv⟩=>Leg.Does.withinR (yv d m wv s ws ar lf hD.ws) (B:=[]) (λ_ _ _ _=>trivial) (λ_ s=>s) (λv H h=>by
    obtain⟨rfl,rfl⟩:=h
    exact⟨_,λ_ s=>br (H:=[]) (m,(.slice none 0 0:Value)) s,rfl,rfl⟩)
 · exact Leg.Does.pack (B:=[]) λ⟨m,wv⟩=>Leg.Does.withinR (vi d m wv ar lf) (B:=[kH m (sD s),own wv ws.length (dU ws) 187 65]) (λ_ _ _ _=>trivial) (λ_ s=>s) (λv H h=>by
    obtain⟨rfl,rfl⟩:=h
    exact⟨_,λ_ s=>br (H:=[]) (m,wv) s,rfl,rfl⟩)
theorem F0:DT 54 #[] T0 [] (dB (λv H=>∃d,v= .pointer (some ⟨d,0,none⟩)∧H=[dk d DS.new])):=
 Leg.Does.withinR D3 (B:=[]) (λ_ _ _ _=>trivial) (λ_ s=>s) (λv H h=>by
  obtain⟨d,m,rfl,rfl⟩:=h
  exact⟨_,λ_ s=>br (H:=[]) (m,(.slice none 0 0:Value)) (eG (List.Perm.trans (List.Perm.swap _ _ _) (List.Perm.cons _ (List.Perm.swap _ _ _))) (iq 187 65 s)),d,rfl,rfl⟩)
end Go.Proofs.YtjblgopghhgflaaGreat
end
