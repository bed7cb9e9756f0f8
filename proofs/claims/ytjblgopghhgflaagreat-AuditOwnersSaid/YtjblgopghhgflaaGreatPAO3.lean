/-
  Joined texts:what a statement's proof reaches.
-/
import Derived.Laws.MakeOwn
import Derived.OwnWalk
import Derived.OpenShut
import Derived.Deep.Slices
import Derived.ChangeArms
import Derived.WalkSpells
import Derived.Test.YtjblgopghhgflaaGreatPAO2
set_option maxHeartbeats 8000000
set_option maxRecDepth 100000
set_option linter.unusedSimpArgs false
set_option linter.unusedVariables false
section
namespace Api
open Go Leg Codec
def fP(n:Int):Int:=IntKind.i64.wrap n
def mR(key:Int):Bool:=decide (0≤key∧key<4)
theorem fl{w:Int}(h:cI w=true):w.toNat<5:=by have:0≤w∧w<5:=of_decide_eq_true h;omega
theorem zI{k:Int}(h:mR k=true):k.toNat<4:=by have:0≤k∧k<4:=of_decide_eq_true h;omega
def wY(key n:Int):Bool:=mR key&&decide (1≤n)&&Ev n
def dI(x:RowT)(key:Int):CellT:=if h:mR key=true then x.cells[key.toNat]'(zI h)else .zero
def k9(x:RowT)(key:Int)(c:CellT):RowT:=if h:mR key=true then {x with cells:=x.cells.set key.toNat c (zI h)}else x
def lx(x:RowT)(key n counts:Int)(c:CellT):RowT×Int:=
 if counts>1099511627776-n then(.zero,6)else({k9 x key c with version:=fP (x.version+1)},0)
def pC(x:RowT)(key n:Int):RowT×Int:=
 if wY key n then lx x key n (dI x key).inn {dI x key with inn:=fP ((dI x key).inn+n)}else(.zero,5)
def pD(x:RowT)(key n:Int):RowT×Int:=
 if wY key n then lx x key n (dI x key).out {dI x key with out:=fP ((dI x key).out+n)}else(.zero,5)
def lc(c:CellT)(to:Int):Int:=if h:cI to=true then c.given[to.toNat]'(fl h)else 0
def wz(c:CellT)(to v:Int):CellT:=if h:cI to=true then {c with given:=c.given.set to.toNat v (fl h)}else c
def GY(c:CellT):Int:=c.given.toList.foldl (λs g=>fP (s+g)) 0
def mg(x:RowT)(key n to:Int):RowT×Int:=
 if cI to&&wY key n then lx x key n (GY (dI x key)) (wz (dI x key) to (fP (lc (dI x key) to+n)))else(.zero,5)
def ownAt(x:RowT)(who:Int)(i:Nat):Bool:=decide ((i:Int)=who)||decide (0<x.heir.toList.getD i 0)
def ii(x:RowT)(who:Int)(k:Nat):List Int:=((List.range k).filter (ownAt x who)).map λi=>((i:Nat):Int)
def gg(x:RowT)(who:Int):List Int:=ii x who 5
theorem qP(x:RowT)(who:Int)(k:Nat):ii x who (k+1)=ii x who k++(if ownAt x who k then [((k:Nat):Int)]else []):=by
 unfold ii;rw[cR,List.filter_append,cS]
 by_cases h:ownAt x who k=true<;>simp[h]
theorem vW(x:RowT)(who:Int){i:Nat}(h:i<5):ownAt x who i=(decide ((i:Int)=who)||decide (0<x.heir[i])):=by simp[ownAt,h]
theorem FW(x:RowT)(who:Int)(k:Nat):(ii x who k).length≤k:=by
 unfold ii;rw[bU];exact xP (Aj _ _) (by simp)
def fN(x:RowT)(of':Int):Int:=if h:cI of'=true then x.heir[of'.toNat]'(fl h)else 0
def Ds(x:RowT)(of' key:Int):CellT:=if h:cI of'=true∧mR key=true then(x.left[of'.toNat]'(fl h.1))[key.toNat]'(zI h.2)else .zero
def jV(x:RowT)(who of' key:Int):CellT×Int:=
 if cI who&&cI of'&&mR key then(if of'=who then(dI x key,x.version)else if fN x of'>0 then(Ds x of' key,fP (fN x of'-1))else(.zero, -1))else(.zero, -1)
def gI(who:Int):List Int:=if cI who then [(who+1)%5,(who+2)%5]else []
def cw(b:BookT)(who:Int):RowT:=if h:cI who=true then b.rows[who.toNat]'(fl h)else .zero
theorem wT(b:BookT){k:Nat}(h:k<5):cw b ((k:Nat):Int)=b.rows[k]:=by rw[cw,dif_pos (show cI ((k:Nat):Int)=true from decide_eq_true ⟨by omega,by omega⟩)];rfl
def zp(b:BookT)(who:Int)(x:RowT):BookT:=if h:cI who=true then {b with rows:=b.rows.set who.toNat x (fl h)}else b
def fy(b:BookT)(who:Int)(x:RowT):BookT×Bool:=
 if cI who&&fL x&&decide (x.version>(cw b who).version)then(zp b who x,true)else(b,false)
def sK(b:BookT)(of' key:Int)(s:CellT×Int)(i:Nat):CellT×Int:=
 let c:=jV (cw b i) i of' key
 if c.2>s.2 then c else s
def wS(b:BookT)(of' key:Int)(k:Nat):CellT×Int:=(List.range k).foldl (sK b of' key) (.zero, -1)
def cV(b:BookT)(of' key:Int):CellT:=(wS b of' key 5).1
theorem ut(b:BookT)(of' key:Int)(k:Nat):wS b of' key (k+1)=sK b of' key (wS b of' key k) k:=by
 unfold wS;rw[cR,eT];rfl
def rH(b:BookT)(key:Int)(k:Nat):Int:=(List.range k).foldl (λv (i:Nat)=>fP (v+fP ((cV b i key).inn- (cV b i key).out))) 0
def mB(b:BookT)(key:Int):Int:=rH b key 5
theorem y2(b:BookT)(key:Int)(k:Nat):rH b key (k+1)=fP (rH b key k+fP ((cV b k key).inn- (cV b k key).out)):=by
 unfold rH;rw[cR,eT];rfl
def pE(b:BookT)(key of':Int)(r:Int)(k:Nat):Int:=(List.range k).foldl (λr (i:Nat)=>fP (r+fP (lc (cV b i key) of'-lc (cV b of' key) i))) r
theorem xi(b:BookT)(key of' r:Int)(k:Nat):pE b key of' r (k+1)=fP (pE b key of' r k+fP (lc (cV b k key) of'-lc (cV b of' key) k)):=by
 unfold pE;rw[cR,eT];rfl
def ou(b:BookT)(key r of':Int):Int:=pE b key of' (fP (r+fP ((cV b of' key).inn- (cV b of' key).out))) 5
def oJ(b:BookT)(who key:Int):Int:=if cI who then(gg (cw b who) who).foldl (ou b key) 0 else 0
theorem C5(x:RowT)(who:Int): ∀n∈gg x who,0≤n∧n<5:=by
 intro n hn;simp only[gg,ii,eS,List.mem_filter,eY]at hn;obtain⟨i,⟨hi,_⟩,rfl⟩:=hn;omega
theorem wy(c:CellT){k:Nat}(h:k<5):lc c ((k:Nat):Int)=c.given[k]:=by rw[lc,dif_pos (show cI ((k:Nat):Int)=true from decide_eq_true ⟨by omega,by omega⟩)];rfl
def da(m:MirT)(who:Int):RowT:=if h:cI who=true then m.rows[who.toNat]'(fl h)else .zero
def fe(m:MirT)(who:Int):Bool:=if h:cI who=true then m.sealed[who.toNat]'(fl h)else false
def ly(m:MirT)(who:Int)(x:RowT):Bool:=cI who&& !fe m who&&fL x&&decide (x.version>(da m who).version)
def zG(m:MirT)(who:Int)(x:RowT):MirT:=if h:cI who=true then {m with rows:=m.rows.set who.toNat x (fl h)}else m
def ml(m:MirT)(who:Int)(x:RowT):MirT×Bool:=if ly m who x then(zG m who x,true)else(m,false)
def nT(m:MirT)(who:Int):MirT:=if h:cI who=true then {m with sealed:=m.sealed.set who.toNat true (fl h)}else m
end Api
end

section
namespace Leg
open Go Codec Api
theorem xp(v:Value)(n:Nat):madeCells #[v] n=(List.replicate n v).toArray:=by
 unfold madeCells;apply Array.ext
 · simp
 · intro i h1 h2
   simp at h1;simp[Nat.mod_one]
theorem IP(n:Nat):eb (List.replicate n 0)=List.replicate n (.int .u8 0):=by simp[eb]
section
variable {P:Program} {w0:World} {F:Hl} {n:Nat} {ops:Array Oper} {Q:QQ} {D:List Deferred} {L:List (Nat×Value)} {H:List HP} {o:Oper} {l:List Oper} {d:Nat} {S:World→Prop}
theorem TL.mono{H':List HP}(m: ∀h,bE H h→bE H' h)(h:TL P w0 F n ops Q l D L H'):TL P w0 F n ops Q l D L H:=TL.weak (di _) m h
abbrev cr:= @TL.mono
theorem TL.makeB{t e:TypeId}{x y:Operand}{k k':IntKind}{a b:Int}(m c:Nat)(hw:Want n D ops o L)(ho:o.op= .makeSlice t x y)(hd:o.dst=some d)(hn:Nat.blt d n=true)(ht:P.underlying t=some (.slice e))
 (hi:(P.info? e).map (λi=>(i.zero,i.size,i.bytes))=some (some (.int .u8 0),1,1)) (hx:cG L x=some (.int k a)) (hy:cG L y=some (.int k' b)) (ha:a=(m:Int)) (hb:b=(c:Int)) (h1:m≤c) (h2:c≤281474976710656)
 (h: ∀b,TL P w0 F n ops Q l D ((d, .slice (some ⟨b,0,none⟩) m c)::L) (ah b (eb (List.replicate c 0)) e::H)):TL P w0 F n ops Q (o::l) D L H:=
 lW hw λa w f sm q=>by
  subst ha;subst hb;obtain⟨i,hie,hz0,hs,hb⟩:=info_parts hi;have hr:=run_make (P:=P) w t e i (.int .u8 0) ht hie hz0 k k' (m:Int) (c:Int) (by omega) (by omega) (by rw[hb];omega) (by omega)
  have e1:madeCells (Value.cells (.int .u8 0)) ((c:Int).toNat*i.size)=(eb (List.replicate c 0)).toArray:=by
   rw[hs,fH,Iz,IP];exact xp _ _
  rw[e1]at hr;simp only[Iz]at hr
  have r:(execOp a.eval o).run P w= .ok (.value (.slice (some ⟨w.heap.size,0,none⟩) m c)) (w.alloc (.cells (eb (List.replicate c 0)).toArray e)):=by
   simp only[execOp,ho,f.eval hx,f.eval hy,Sem.run_bind,hr,Result.andThen_ok,Sem.run_pure]
  unfold Oper.wp;rw[r,Oper.upon_value,hd];exact h _ _ _ (f.put (lb hn) _) (sm.trans ⟨rfl,rfl,rfl,by simp⟩) (q.alloc _)
def jM:Value→Nat→Nat→Value
 | .slice a m c,lo,hi=> .slice (if c=lo then a else a.map (·.add lo)) (hi-lo) (c-lo)
 |v,_,_=>v
theorem PV.sliceLH{t e:TypeId}{x y z:Operand}{a:Option Addr}{len cap lo hi:Nat}{k k':IntKind}{i j:Int}(ho:o.op= .slice t x (some y) (some z) none)(ht:P.underlying t=some (.slice e))(hs:(P.info? e).map (·.size)=some 1)
 (hx:cG L x=some (.slice a len cap)) (hy:cG L y=some (.int k i)) (hz:cG L z=some (.int k' j)) (hi':i=(lo:Int)) (hj:j=(hi:Int)) (h1:lo≤hi) (h2:hi≤cap):PV P n D L S o (jM (.slice a len cap) lo hi):=
 λb w g _=>by
  subst hi';subst hj;simp only[execOp,ho,g.eval hx,Option.map_some,Option.map_none,g.eval hy,g.eval hz,jM]
  by_cases q:cap=lo
  · have e2:hi=lo:=by omega
    subst e2;simp[Instr.sliceAt,Instr.slice,run_underlying ht,Instr.sliceBounds,Instr.sliceBound,asIntOf,dY hs,q]
  · simp[Instr.sliceAt,Instr.slice,run_underlying ht,Instr.sliceBounds,Instr.sliceBound,asIntOf,h1,h2,dY hs,q]
theorem PV.sliceH{t e:TypeId}{x z:Operand}{a:Option Addr}{len cap hi:Nat}{k':IntKind}{j:Int}(ho:o.op= .slice t x none (some z) none)(ht:P.underlying t=some (.slice e))(hs:(P.info? e).map (·.size)=some 1)
 (hx:cG L x=some (.slice a len cap)) (hz:cG L z=some (.int k' j)) (hj:j=(hi:Int)) (h2:hi≤cap):PV P n D L S o (jM (.slice a len cap) 0 hi):=
 λb w g _=>by
  subst hj;simp only[execOp,ho,g.eval hx,Option.map_some,Option.map_none,g.eval hz,jM]
  by_cases q:cap=0
  · have e2:hi=0:=by omega
    subst e2;simp[Instr.sliceAt,Instr.slice,run_underlying ht,Instr.sliceBounds,Instr.sliceBound,asIntOf,dY hs,q]
  · simp[Instr.sliceAt,Instr.slice,run_underlying ht,Instr.sliceBounds,Instr.sliceBound,asIntOf,h2,dY hs,q]
theorem PV.sliceL{t e:TypeId}{x y:Operand}{a:Option Addr}{len cap lo:Nat}{k:IntKind}{i:Int}(ho:o.op= .slice t x (some y) none none)(ht:P.underlying t=some (.slice e))(hs:(P.info? e).map (·.size)=some 1)
 (hx:cG L x=some (.slice a len cap)) (hy:cG L y=some (.int k i)) (hi:i=(lo:Int)) (h1:lo≤len):PV P n D L S o (jM (.slice a len cap) lo len):=
 λb w g _=>by
  subst hi;simp only[execOp,ho,g.eval hx,Option.map_some,Option.map_none,g.eval hy,jM]
  by_cases q:cap=lo
  · simp[Instr.sliceAt,Instr.slice,run_underlying ht,Instr.sliceBounds,Instr.sliceBound,asIntOf,h1,dY hs,q]
  · simp[Instr.sliceAt,Instr.slice,run_underlying ht,Instr.sliceBounds,Instr.sliceBound,asIntOf,h1,dY hs,q]
end
theorem IsW.form{v:Value}{bs:List UInt8}{F:Hl}(h:IsW v bs F): ∃a c,v= .slice a bs.length c∧bs.length≤c∧(bs.length=0∨c≤9223372036854775807):=by
 rcases h with(⟨rfl,rfl⟩| ⟨b,off,cap,cs,T,z,rfl,h1,h2,_⟩)| ⟨a,c,rfl,rfl⟩
 · exact⟨_,_,rfl,aK _, .inl rfl⟩
 · exact⟨_,_,rfl,h1, .inr h2⟩
 · exact⟨_,_,rfl,aO _, .inl rfl⟩
theorem IsW.lt{v:Value}{bs:List UInt8}{F:Hl}(h:IsW v bs F):bs.length≤9223372036854775807:=by
 obtain⟨a,c,_,h1,h2⟩:=h.form;omega
theorem IsW.cut{v:Value}{bs:List UInt8}{F:Hl}(h:IsW v bs F){lo hi:Nat}(h1:lo≤hi)(h2:hi≤bs.length):IsW (jM v lo hi) ((bs.take hi).drop lo) F:=by
 have hl:((bs.take hi).drop lo).length=hi-lo:=by simp;omega
 by_cases e:hi-lo=0
 · obtain⟨a,c,rfl,hc,_⟩:=h.form
   have e0:(bs.take hi).drop lo=[]:=List.eq_nil_of_length_eq_zero (by omega);rw[e0];simp only[jM,e];split
   · cases a with
     |some a=>exact .inr ⟨_,_,rfl,rfl⟩
     |none=>
      rcases h with(⟨h,rfl⟩| ⟨b,off,cap,cs,T,z,h,_⟩)| ⟨a,c,h,_⟩
      · injection h with _ _ h;subst h;exact .inl (.inl ⟨by simp,rfl⟩)
      · simp at h
      · simp at h
   · cases a with
     |some a=>exact .inr ⟨_,_,rfl,rfl⟩
     |none=>
      rcases h with(⟨h,rfl⟩| ⟨b,off,cap,cs,T,z,h,_⟩)| ⟨a,c,h,_⟩
      · injection h with _ _ h;subst h;exact .inl (.inl ⟨by simp,rfl⟩)
      · simp at h
      · simp at h
 · obtain⟨b,off,cap,cs,T,z,rfl,hb,hcs,hc⟩:=h.at (j:=0) (by omega)
   rcases h.form with⟨a,c,hv,_,hm⟩
   injection hv with _ _ hv
   subst hv;refine .inl (.inr ⟨b,off+lo,cap-lo,cs,T,z,?_,by omega,by omega,hb,λj hj=>?_⟩)
   · simp only[jM,hl,if_neg (show ¬cap=lo by omega),Option.map_some,pX]
   · rw[hl]at hj
     rw[mW,hcs (lo+j) (by omega)];congr 2;simp[List.getD_eq_getElem?_getD,List.getElem?_take,show lo+j<hi by omega]
def gx(v:Value)(bs:List UInt8)(e:Nat):HP:=λh=>
 (v= .slice none 0 0∧bs=[]∧h=em)∨∃g off cap cur,v= .slice (some ⟨g,off,none⟩) bs.length cap∧h=sg g (.cells cur e (0,0))∧bs.length≤cap∧cap≤maxLen∧off+cap≤cur.size∧(cur.toList.drop off).take bs.length=eb bs
theorem pv{v:Value}{bs:List UInt8}{e:Nat}{h:Hl}(x:dQ v bs e h):gx v bs e h:=by
 rcases x with⟨_,⟨h1,h2,h3⟩| ⟨g,cap,cur,h1,h2,h3,h4,h5,h6⟩⟩
 · exact .inl ⟨h1,List.eq_nil_of_length_eq_zero h2,h3⟩
 · exact .inr ⟨g,0,cap,cur,h1,h2,h3,h4,by omega,by simpa using h6⟩
section
variable {H:List HP} {F:Hl} {v:Value} {bs:List UInt8} {e:Nat}
theorem zc(i:Nat)(hi:Nat.blt i H.length=true)(hH:H.getD i (λ_=>True)=dQ v bs e){h:Hl}(s:bE H h):bE (H.set i (gx v bs e)) h:=
 kr i (lb hi) (cB (eW i (lb hi) s) (λ_ x=>pv (by rwa [hH]at x)) λ_ x=>x)
theorem vu{lo hi nn:Nat}{bs':List UInt8}(i:Nat)(hi':Nat.blt i H.length=true)(hH:H.getD i (λ_=>True)=dQ v bs e){g cap:Nat}(hv:v= .slice (some ⟨g,0,none⟩) nn cap)(h1:lo≤hi)(h2:hi≤bs.length)(h3:lo<bs.length)(hb:(bs.take hi).drop lo=bs'){h:Hl}(s:bE H h):
 bE (H.set i (gx (jM v lo hi) bs' e)) h:=by
 subst hb;have hl:((bs.take hi).drop lo).length=hi-lo:=by simp;omega
 refine kr i (lb hi') (cB (eW i (lb hi') s) (λ_ x=>?_) λ_ x=>x);rw[hH]at x;rcases x with⟨_,⟨h1,h2,_⟩| ⟨g',cap',cur,h4,h5,h6,h7,h8,h9⟩⟩
 · rw[hv]at h1;simp at h1
 · rw[hv]at h4 ⊢
   simp only[Value.slice.injEq,Option.some.injEq,Addr.mk.injEq,and_true,true_and]at h4;obtain⟨rfl,rfl,rfl⟩:=h4;refine .inr ⟨g,lo,cap-lo,cur,?_,h5,by omega,by omega,by omega,?_⟩
   · simp only[jM,hl,if_neg (show ¬cap=lo by omega),Option.map_some,pX,bl]
   · rw[hl]
     rw[fH]at h9;have e1:=congrArg (λl:List Value=>(l.take hi).drop lo) h9;simp only[List.take_take,Nat.min_eq_left h2]at e1;rw[←oe,e1];simp[eb,pd,kK]
theorem Sat.sub_form{w:World}(i:Nat)(s:Sat H F w)(hi:Nat.blt i H.length=true)(hH:H.getD i (λ_=>True)=gx v bs e):(v= .slice none 0 0∧bs=[])∨∃g off cap cur,v= .slice (some ⟨g,off,none⟩) bs.length cap∧w.heap[g]?=some (.cells cur e (0,0))∧bs.length≤cap∧cap≤maxLen∧off+cap≤cur.size∧(cur.toList.drop off).take bs.length=eb bs:=by
 obtain⟨h,d,e',x⟩:=s;obtain⟨h1,h2,d',rfl,a,_⟩:=eW i (lb hi) x;rw[hH]at a;rcases a with⟨x1,x2,_⟩| ⟨g,off,cap,cur,x1,x2,x3⟩
 · exact .inl ⟨x1,x2⟩
 · refine .inr ⟨g,off,cap,cur,x1,?_,x3⟩
   have:hp w g=some (.cells cur e (0,0)):=by
    rw[e',je];exact gL (by rw[x2];simp[sg])
   exact this
theorem Sat.sub_len{w:World}(i:Nat)(s:Sat H F w)(hi:Nat.blt i H.length=true)(hH:H.getD i (λ_=>True)=gx v bs e):oU v bs.length∧v.oneCell'=true:=by
 rcases s.sub_form i hi hH with⟨rfl,rfl⟩| ⟨g,off,cap,cur,rfl,_⟩
 · exact⟨⟨_,_,rfl⟩,rfl⟩
 · exact⟨⟨_,_,rfl⟩,rfl⟩
theorem Src.sub(i:Nat)(hi:Nat.blt i H.length=true)(hH:H.getD i (λ_=>True)=gx v bs e){w:World}(s:Sat H F w):Src (Sat H F) v bs.length (eb bs) 1:=by
 refine⟨by simp[eb],?_⟩;rcases s.sub_form i hi hH with⟨rfl,rfl⟩| ⟨g,off,cap,cur,rfl,_⟩
 · exact .inl ⟨rfl,rfl⟩
 · refine .inr ⟨⟨g,off,none⟩,cap,rfl,λw s j u hj=>?_⟩
   rcases s.sub_form i hi hH with⟨h1,_⟩| ⟨g',off',cap',cur',h1,h2,h3,h4,h5,h6⟩
   · simp at h1
   · simp only[Value.slice.injEq,Option.some.injEq,Addr.mk.injEq,and_true,true_and]at h1
     obtain⟨⟨rfl,rfl⟩,rfl⟩:=h1;rw[pX];rw[←h6,List.getElem?_take]at hj;split at hj
     · simp only[World.cell?,h2,Option.isSome_none,Bool.false_eq_true,if_false]
       simpa using hj
     · cases hj
theorem zJ(i:Nat){B:List HP}(hi:Nat.blt i B.length=true)(hH:B.getD i (λ_=>True)=gx v bs e): ∀g,Dj g F→bE B g→IsB v bs (jn g F):=λg _ s=>by
 obtain⟨h1,h2,d',rfl,a,_⟩:=eW i (lb hi) s;rw[hH]at a;rcases a with⟨x1,x2,_⟩| ⟨g,off,cap,cur,x1,x2,x3,x4,x5,x6⟩
 · exact .inl ⟨x1,x2⟩
 · refine .inr ⟨g,off,cap,cur.toList,e,(0,0),x1,x3,by simpa [maxLen]using x4,gL (gL (by rw[x2];simp[sg])),λj hj=>?_⟩
   have e1:=congrArg (λl:List Value=>l[j]?) x6;simp only[List.getElem?_take,if_pos hj,List.getElem?_drop]at e1;rw[e1];simp[eb,List.getD_eq_getElem?_getD,hj]
end
theorem td{P:Program}(w:World)(t ty e:TypeId)(i:TypeInfo)(ht:P.underlying t=some (.slice e))(hi:P.info? e=some i)(g off sLen sCap:Nat)(cur:Array Value)(hg:w.heap[g]?=some (.cells cur e (0,0)))
 (a:Addr) (m c:Nat) (news:List Value) (hl:news.length=m*i.size) (hnews: ∀j u,news[j]?=some u→w.cell? (a.add j)=some u) (h1: ∀u∈news,u.oneCell'=true)
 (hroom:sLen+m≤sCap) (hfit:off+sLen*i.size+news.length≤cur.size):
 (Builtin.append_ #[t,t] ty #[.slice (some ⟨g,off,none⟩) sLen sCap, .slice (some a) m c]).run P w=
  .ok (.slice (some ⟨g,off,none⟩) (sLen+m) sCap) (w.setRow g (cur.toList.take (off+sLen*i.size)++news++cur.toList.drop (off+sLen*i.size+news.length)).toArray):=by
 have hf:=run_firstCells_some (P:=P) w i.size m a m c news hl hnews;have hst:=run_storeCells_at P g (off+sLen*i.size) e news 0 cur w hg (by simpa using hfit) h1;simp only[Iw]at hst;simp[Builtin.append_,run_underlying ht,Go.sizeOf,typeInfo,hi,Builtin.lenOf,hroom,hf,Addr.add_lit,hst]
section
variable {P:Program} {w0:World} {F:Hl} {n:Nat} {ops:Array Oper} {Q:QQ} {D:List Deferred} {L:List (Nat×Value)} {H:List HP} {o:Oper} {l:List Oper} {d:Nat} {S:World→Prop}
theorem Sat.sub_open{w:World}{k:Nat}{v:Value}{bs:List UInt8}{e:TypeId}(s:Sat H F w)(hk:Nat.blt k H.length=true)(hH:H.getD k (λ_=>True)=gx v bs e):
 (v= .slice none 0 0∧bs=[]∧Sat (H.set k (dQ (.slice none 0 0) [] e)) F w)∨∃g off cap cur,v= .slice (some ⟨g,off,none⟩) bs.length cap∧Sat (H.set k (zy g (.cells cur e (0,0)))) F w∧bs.length≤cap∧cap≤maxLen∧off+cap≤cur.size∧(cur.toList.drop off).take bs.length=eb bs:=by
 obtain⟨h,d,e',x⟩:=s;obtain⟨h1,h2,d',rfl,a,y⟩:=eW k (lb hk) x;rw[hH]at a;rcases a with⟨x1,x2,x3⟩| ⟨g,off,cap,cur,x1,x2,x3⟩
 · exact .inl ⟨x1,x2,_,d,e',kr k (lb hk) ⟨h1,h2,d',rfl,⟨rfl, .inl ⟨rfl,rfl,x3⟩⟩,y⟩⟩
 · exact .inr ⟨g,off,cap,cur,x1,⟨_,d,e',kr k (lb hk) ⟨h1,h2,d',rfl,x2,y⟩⟩,x3⟩
theorem Src.of_eq{S':World→Prop}{x:Value}{m size:Nat}{news:List Value}(h:Src S x m news size)(hS: ∀w,S' w→S w):Src S' x m news size:=⟨h.1,h.2.imp id λ⟨a,c,q3,q4⟩=>⟨a,c,q3,λw' s'=>q4 w' (hS w' s')⟩⟩
theorem AV{k:Nat}{q:HP}(hk:Nat.blt k H.length=true)(hH:H.getD k (λ_=>True)=q):H.set k q=H:=by
 rw[←hH,List.getD_eq_getElem?_getD,List.getElem?_eq_getElem (lb hk)];exact List.set_getElem_self _
theorem A3{w:World}{k:Nat}{v x:Value}{bs news:List UInt8}{t ty e:TypeId}(s:Sat H F w)(ht:P.underlying t=some (.slice e))(hi:(P.info? e).map (λi=>(i.zero,i.size,i.bytes))=some (some (.int .u8 0),1,1))
 (hk:Nat.blt k H.length=true) (hH:H.getD k (λ_=>True)=gx v bs e) (hx:Src (Sat H F) x news.length (eb news) 1) (hb:bs.length+news.length≤140737488355328):
 ∃v' w',(Builtin.append_ #[t,t] ty #[v,x]).run P w= .ok v' w'∧Same w w'∧Sat (H.set k (gx v' (bs++news) e)) F w':=by
 rcases s.sub_open hk hH with⟨rfl,rfl,s1⟩| ⟨g,off,cap,cur,rfl,s1,h3,h4,h5,h6⟩
 · have hx':Src (Sat (H.set k (dQ (.slice none 0 0) [] e)) F) x news.length (eb news) 1:=hx.of_eq λw' s'=>by
    have:=s'.turn (q:=gx (.slice none 0 0) [] e) k (by simpa using lb hk) λh hh=>by
     rw[ij (lb hk)]at hh;exact pv hh
    rwa [gY,AV hk hH]at this
   obtain⟨v',w',r1,r2,r3⟩:=tP (k:=k) (nn:=0) (m:=news.length) (v:= .slice none 0 0) (xs:=eb []) (news:=eb news) (ty:=ty) s1 ht hi rfl (by decide) (by simpa using lb hk) (ij (lb hk) _) hx' (eU _) (by simp only[maxLen];simp at hb;omega) (by simp at hb;omega);refine⟨v',w',r1,r2,?_⟩;rw[gY]at r3
   have:=r3.turn (q:=gx v' ([]++news) e) k (by simpa using lb hk) λh hh=>by
    rw[ij (lb hk)]at hh;refine pv ?_;rw[←iT,bl,be]at hh;exact hh
   rwa [gY]at this
 · obtain⟨i,hie,hz0,hsz,hby⟩:=info_parts hi
   obtain⟨hxl,hxx⟩:=hx;have hg:w.heap[g]?=some (.cells cur e (0,0)):=s1.block k (by simpa using lb hk) (ij (lb hk) _)
   by_cases hroom:bs.length+news.length≤cap
   · rcases hxx with⟨rfl,hm⟩| ⟨a0,c,rfl,hc⟩
     · have hn:news=[]:=List.eq_nil_of_length_eq_zero hm
       subst hn;refine⟨_,w,?_,ry w,by rw[ba,AV hk hH];exact s⟩;simp[Builtin.append_,run_underlying ht,Go.sizeOf,typeInfo,hie,Builtin.lenOf,Builtin.firstCells,loadCells,loadCellsFrom,storeCells,h3]
     · have hfit:off+bs.length*i.size+(eb news).length≤cur.size:=by rw[hsz,fH,a8];omega
       refine⟨_,_,td (P:=P) w t ty e i ht hie g off bs.length cap cur hg a0 news.length c (eb news) (by rw[hsz,a8,fH]) (λj v hj=>hc w s j v hj) (eU _) hroom hfit,⟨rfl,rfl,rfl,by simp⟩,?_⟩;have h2:=s1.write k (by simpa using lb hk) (ij (lb hk) _) (setRow_heap w g cur (cur.toList.take (off+bs.length*i.size)++eb news++cur.toList.drop (off+bs.length*i.size+(eb news).length)).toArray e _ hg) (λj hj=>setRow_other w g j _ hj);rw[gY]at h2
       have h7:=h2.turn (q:=gx (.slice (some ⟨g,off,none⟩) (bs.length+news.length) cap) (bs++news) e) k (by simpa using lb hk) (λh hh=>by
        rw[ij (lb hk)]at hh;rw[hsz,fH,a8]at hh;refine .inr ⟨g,off,cap,_,by rw[aj],hh,by rw[aj];exact hroom,h4,?_,?_⟩
        · simp only[List.size_toArray,aj,bn,cz,Array.length_toList,a8]
          rw[hsz,fH,a8]at hfit;omega
        · simp only[aL]
          rw[kf (by simp only[bn,Array.length_toList];rw[hsz,fH,a8]at hfit;omega),oe,cj,h6,←aL,←iT]
          rw[cm (by rw[a8];exact aK _),aB (by rw[a8];exact aK _)])
       rwa [gY]at h7
   · rcases hxx with⟨rfl,hm⟩| ⟨a0,c,rfl,hc⟩
     · omega
     · have holds: ∀j u,(eb bs)[j]?=some u→w.cell? ((⟨g,off,none⟩:Addr).add j)=some u:=λj u hj=>by
        rw[pX];rw[←h6,List.getElem?_take]at hj;split at hj
        · simpa [World.cell?,hg]using hj
        · cases hj
       have hr:=run_append_grow (P:=P) w t ty e i _ ht hie hz0 ⟨g,off,none⟩ bs.length cap (eb bs) (by rw[hsz,a8,fH]) holds a0 news.length c (eb news) (by rw[hsz,a8,fH]) (λj v hj=>hc w s j v hj) (by omega) (by omega) (growslice_fits (by omega) (by rw[hby];omega));refine⟨_,_,hr,⟨rfl,rfl,rfl,by simp⟩,Sat.swap k (lb hk) (s.drew.alloc _) λh hh=>?_⟩;have hge:=grownCap_ge w (bs.length+news.length) cap e;refine .inr ⟨w.heap.size,0,_,_,by rw[aj],hh,by rw[aj];exact hge,grownCap_le_maxLen w (bs.length+news.length) cap e (by simp only[maxLen];omega),?_,?_⟩
       · simp only[Array.size_append,List.size_toArray,size_zeroCells,a8,bl]
         have:(Value.cells (.int .u8 0)).size=1:=rfl;rw[this,fH];omega
       · simp only[Array.toList_append,aL,aV]
         rw[←aL,←iT,←a8 (bs++news)];exact sQ
theorem TL.appendS{s x:Operand}{k:Nat}{v vx:Value}{bs news bs':List UInt8}{t e:TypeId}(hw:Want n D ops o L)
 (ho:o.op= .call {callee:= .builtin .append,args:=#[s,x],argTypes:=#[t,t]}) (hd:o.dst=some d) (hn:Nat.blt d n=true) (ht:P.underlying t=some (.slice e))
 (hi:(P.info? e).map (λi=>(i.zero,i.size,i.bytes))=some (some (.int .u8 0),1,1)) (hs:cG L s=some v) (hx:cG L x=some vx)
 (hk:Nat.blt k H.length=true) (hH:H.getD k (λ_=>True)=gx v bs e) (hsrc: ∀w,Sat H F w→Src (Sat H F) vx news.length (eb news) 1) (hb:bs.length+news.length≤140737488355328)
 (hxs:bs++news=bs') (h: ∀v',v'.oneCell'=true→TL P w0 F n ops Q l D ((d,v')::L) (H.set k (gx v' bs' e))):TL P w0 F n ops Q (o::l) D L H:=
 lW hw λa w f sm q=>by
  obtain⟨v',w',hr,s',q'⟩:=A3 (ty:=o.type) q ht hi hk hH (hsrc w q) hb;unfold Oper.wp execOp;simp only[ho,resolve,invoke,builtin,Sem.run_bind,Sem.run_pure,Result.andThen_ok,JF,fu,rl,f.eval hs,f.eval hx,hr];rw[Oper.upon_value,hd];subst hxs;have one:v'.oneCell'=true:=(q'.sub_len k (by simpa using hk) (ij (lb hk) _)).2;exact h v' one _ w' (f.put (lb hn) v') (sm.trans s') q'
theorem TL.subLen{v:Value}{bs:List UInt8}{e:Nat}(k:Nat)(hk:Nat.blt k H.length=true)(hH:H.getD k (λ_=>True)=gx v bs e)
 (h:oU v bs.length→v.oneCell'=true→TL P w0 F n ops Q l D L H):TL P w0 F n ops Q l D L H:=xE (λw m=>m.sub_len k hk hH) λ⟨h1,h2⟩=>h h1 h2
end
theorem sB{v:Value}{z:Array Value}(h:v.oneCell'=true)(hz:z.size=1):Instr.fill (λi=>some (i*1,1)) z [(0,v)]=some #[v]:=by
 rw[Instr.fill,yH h];simp only[gq,List.size_toArray,ay,aD,bl,hz,ne_eq,not_true_eq_false,decide_false,Bool.false_or];rw[if_neg (by simp)]
 have:(#[v].zipIdx.foldl (λcs (c,j)=>cs.setIfInBounds (0+j) c) z)=#[v]:=by
  match z,hz with
  | ⟨[x]⟩,_=>rfl
 simp only[bl]at this;simp only[Instr.fill];rw[this]
theorem BA{x:Value}{bs:List UInt8}{F:Hl}(hx:IsW x bs F)(i:Nat){g T:Nat}{B:List HP}(hi:Nat.blt i B.length=true)(e:B.getD i (λ_=>True)=ah g [x] T): ∀h,Dj h F→bE B h→Nf (.slice (some ⟨g,0,none⟩) 1 1) [bs] (jn h F):=λh d s=>
 .inr (.inr ⟨g,0,1,[x],T,(0,0),rfl,aK _,by decide,rY i hi e h d s,λj hj=>by
  obtain rfl:j=0:=by simpa using hj
  exact⟨[x],rfl,rfl,x,rfl,hx.more d⟩⟩)
theorem Bz(i n:Nat){g T:Nat}{bs:List UInt8}{B:List HP}{F:Hl}(hn:bs.length=n)(hl:n≤9223372036854775807)(hi:Nat.blt i B.length=true)(e:B.getD i (λ_=>True)=ah g (eb bs) T): ∀h,Dj h F→bE B h→IsB (.slice (some ⟨g,0,none⟩) n n) bs (jn h F):=by
 subst hn;exact Jg i hl hi e
def eA(us:List Value)(ls:List (List UInt8))(e:Nat):HP:=λh=>us.length=ls.length∧bE (List.zipWith (λu l=>gx u l e) us ls) h
abbrev l7(te e:Nat)(v:Value)(ls:List (List UInt8)):HP:=pack λus:List Value=>[own v ls.length us te 1,eA us ls e]
theorem uV{α β γ:Type}(f:α→β→γ): ∀(us:List α) (ls:List β) (u:α) (l:β),us.length=ls.length→List.zipWith f (us++[u]) (ls++[l])=List.zipWith f us ls++[f u l]
 | [],[],_,_,_=>rfl
 | [],_::_,_,_,h=>by simp at h
 |_::_,[],_,_,h=>by simp at h
 |x::us,y::ls,u,l,h=>by simp[uV f us ls u l (by simpa using h)]
theorem tE{us:List Value}{ls:List (List UInt8)}{e:Nat}{u:Value}{l:List UInt8}{H:List HP}{h:Hl}(s:bE (eA us ls e::gx u l e::H) h):bE (eA (us++[u]) (ls++[l]) e::H) h:=by
 have t:=mJ.2 s;refine cB t (λh' x=>?_) λ_ x=>x
 obtain⟨h1,h2,d,rfl,⟨hl,a⟩,b⟩:=x;refine⟨by simp[hl],?_⟩;rw[uV _ _ _ _ _ hl];exact(bX _ _).2 ⟨h1,h2,d,rfl,a,qK b⟩
theorem yL{e:Nat}{H:List HP}{h:Hl}(s:bE H h):bE (eA [] [] e::H) h:=⟨em,h,Cn h,(qq h).symm,⟨rfl,trivial⟩,s⟩
theorem wP: ∀(us:List Value) (ls:List (List UInt8)) (e:Nat) (h:Hl),us.length=ls.length→bE (List.zipWith (λu l=>gx u l e) us ls) h→∀(j:Nat) (hj:j<ls.length),∃u,us[j]?=some u∧∃h1 h2,Dj h1 h2∧h=jn h1 h2∧gx u ls[j] e h1
 | [],[],_,_,_,_,j,hj=>by simp at hj
 | [],_::_,_,_,h,_,_,_=>by simp at h
 |_::_,[],_,_,h,_,_,_=>by simp at h
 |u::us,l::ls,e,h,hl,s,0,_=>by
  obtain⟨h1,h2,d,rfl,a,_⟩:=s;exact⟨u,rfl,h1,h2,d,rfl,a⟩
 |u::us,l::ls,e,h,hl,s,j+1,hj=>by
  obtain⟨h1,h2,d,rfl,_,b⟩:=s;obtain⟨u',e1,g1,g2,d',rfl,a⟩:=wP us ls e h2 (by simpa using hl) b j (by simpa using hj);refine⟨u',by simpa using e1,g1,jn h1 g2,?_,?_,a⟩
  · obtain⟨q1,q2⟩:=nl.1 d
    exact nl.2 ⟨q1.symm,d'⟩
  · rw[nd d,je,nd (nl.1 d).2]
theorem AH{v:Value}{bs:List UInt8}{e:Nat}{h1 G:Hl}(a:gx v bs e h1)(hG:Le h1 G):IsB v bs G:=by
 rcases a with⟨x1,x2,_⟩| ⟨g,off,cap,cur,x1,x2,x3,x4,x5,x6⟩
 · exact .inl ⟨x1,x2⟩
 · refine .inr ⟨g,off,cap,cur.toList,e,(0,0),x1,x3,by simpa [maxLen]using x4,hG _ _ (by rw[x2];simp[sg]),λj hj=>?_⟩
   have e1:=congrArg (λl:List Value=>l[j]?) x6;simp only[List.getElem?_take,if_pos hj,List.getElem?_drop]at e1;rw[e1];simp[eb,List.getD_eq_getElem?_getD,hj]
theorem tL(te e:Nat){H:List HP}{h:Hl}(s:bE H h):bE (l7 te e (.slice none 0 0) []::H) h:=bj (p:=λus:List Value=>[own (.slice none 0 0) 0 us te 1,eA us [] e]) [] (gC te 1 (yL s))
theorem tN{te e:Nat}{v' u:Value}{us:List Value}{ls:List (List UInt8)}{l:List UInt8}{H:List HP}{h:Hl}(s:bE (own v' (ls.length+1) (us++[u]) te 1::eA us ls e::gx u l e::H) h):bE (l7 te e v' (ls++[l])::H) h:=
 bj (p:=λus:List Value=>[own v' (ls++[l]).length us te 1,eA us (ls++[l]) e]) (us++[u]) (cB s (λ_ x=>by simpa using x) λ_ x=>tE x)
section
variable {P:Program} {w0:World} {F:Hl} {n:Nat} {ops:Array Oper} {Q:QQ} {D:List Deferred} {L:List (Nat×Value)} {H:List HP} {l:List Oper}
theorem TL.recsOpen{te e:Nat}{v:Value}{ls:List (List UInt8)}(h: ∀us,TL P w0 F n ops Q l D L (own v ls.length us te 1::eA us ls e::H)):TL P w0 F n ops Q l D L (l7 te e v ls::H):=
 Kt (λ_ s=>fo s) h
abbrev Ks:= @TL.recsOpen
theorem tM{te e:Nat}{v:Value}{ls:List (List UInt8)}{h:Hl}(s:l7 te e v ls h):oU v ls.length∧v.oneCell'=true:=by
 obtain⟨us,g1,g2,d2,rfl,a1,_⟩:=s;rcases a1 with⟨q0,⟨q1,q2,_⟩| ⟨g,cap,cur,q1,_⟩⟩
 · subst q1
   have:ls=[]:=List.eq_nil_of_length_eq_zero q2;subst this;exact⟨⟨_,_,rfl⟩,rfl⟩
 · subst q1;exact⟨⟨_,_,rfl⟩,rfl⟩
theorem TL.recsLen{te e:Nat}{v:Value}{ls:List (List UInt8)}(k:Nat)(hk:Nat.blt k H.length=true)(hH:H.getD k (λ_=>True)=l7 te e v ls)(h:oU v ls.length→v.oneCell'=true→TL P w0 F n ops Q l D L H):TL P w0 F n ops Q l D L H:=
 xE (p:=oU v ls.length∧v.oneCell'=true) (λw ⟨h,d,e',x⟩=>by
  obtain⟨h1,h2,d',rfl,a,_⟩:=eW k (lb hk) x;rw[hH]at a
  exact tM a) λ⟨h1,h2⟩=>h h1 h2
end
end Leg
namespace Leg
open Go Codec Api
section
variable {P:Program} {w0:World} {F:Hl} {n:Nat} {L:List (Nat×Value)} {H:List HP}
theorem TE.ret3{fn:Func}{post:Ending→List HP→Prop}{t t' t'':Nat}{v v' v'':Value}(hr:fn.results=#[.tmp t, .tmp t', .tmp t''])(e:lk L t=some v)(e':lk L t'=some v')(e'':lk L t''=some v'')(h:post (.returned (.tuple #[v,v',v''])) H):
 TE w0 F n (bodyPost P fn (jD post w0 F)) .ret [] L H:=λa w f s m=>by
 refine bodyPost_ret (results_tmp3 hr _ _ _) f.2.1 ⟨s,H,m,?_⟩;have h1:=f.eval (x:= .tmp t) e;have h2:=f.eval (x:= .tmp t') e';have h3:=f.eval (x:= .tmp t'') e'';rw[show a.tmps.getD t undef=v from h1,show a.tmps.getD t' undef=v' from h2,show a.tmps.getD t'' undef=v'' from h3];exact h
abbrev mY:= @TE.ret3
end
theorem qB{l:List UInt8}{j:Nat}(h:j<l.length):(eb l)[j]?=some (.int .u8 (((l.getD j 0).toNat:Nat):Int)):=by simp[eb,List.getD_eq_getElem?_getD,h]
theorem Jq{a:Addr}{m c k:Nat}(hc:0<c):jM (.slice (some a) m c) 0 k= .slice (some a) k c:=by
 simp only[jM,if_neg (show ¬c=0 by omega),Option.map_some,OI];rfl
end Leg
namespace Leg
open Go Codec Api
section
variable {P:Program} {w0:World} {F:Hl} {n:Nat} {ops:Array Oper} {Q:QQ} {D:List Deferred} {L:List (Nat×Value)} {H:List HP} {o:Oper} {l:List Oper} {d:Nat} {S:World→Prop}
end
end Leg
end

section
namespace Go.Proofs.YtjblgopghhgflaaGreat
open Go Leg Codec Api
theorem s7:(Tryz.prog.info? 61).map (·.size)=some 870:=by kernel_rfl
theorem nI:(Tryz.prog.info? 116).map (·.size)=some 875:=by kernel_rfl
theorem vj:(Tryz.prog.info? 121).map (·.size)=some 870:=by kernel_rfl
theorem JU:NM 168:=nk Tryz.func168
theorem Mj:NM 179:=nk Tryz.func179
theorem jU(w:Int):
 DT 157 #[(.int .i64 (w))] T0 [] (RI (.bool (cI w)) []):=by
 refine BD 9 Tryz.func157 rfl rfl rfl λw0 F hF=>sr λ_ J1=>PS ?_
 refine nx J1 (sr λ_ J2=>P2 ?_);refine an ?_ ?_<;>intro h4
 iterate 5 refine PS ?_
 refine nx J2 (ai (au rfl rfl ?_));exact⟨congrArg Value.bool (by unfold cI;first| (rw[decide_eq_decide];omega)| (symm;rw[decide_eq_false_iff_not];omega)| (symm;rw[decide_eq_true_iff];omega)),rfl⟩;refine PS ?_;refine UF ?_;refine UF ?_;refine P2 ?_;refine nx J2 (ai (au rfl rfl ?_));exact⟨congrArg Value.bool (by unfold cI;first| (rw[decide_eq_decide];omega)| (symm;rw[decide_eq_false_iff_not];omega)| (symm;rw[decide_eq_true_iff];omega)),rfl⟩
theorem kY(w:Int):
 DT 79 #[(.int .i64 (w))] T0 [] (RI (.bool (cI w)) []):=by
 refine BD 9 Tryz.func79 rfl rfl rfl λw0 F hF=>sr λ_ J1=>PS ?_
 refine nx J1 (sr λ_ J2=>P2 ?_);refine an ?_ ?_<;>intro h4
 iterate 5 refine PS ?_
 refine nx J2 (ai (au rfl rfl ?_));exact⟨congrArg Value.bool (by unfold cI;first| (rw[decide_eq_decide];omega)| (symm;rw[decide_eq_false_iff_not];omega)| (symm;rw[decide_eq_true_iff];omega)),rfl⟩;refine PS ?_;refine UF ?_;refine UF ?_;refine P2 ?_;refine nx J2 (ai (au rfl rfl ?_));exact⟨congrArg Value.bool (by unfold cI;first| (rw[decide_eq_decide];omega)| (symm;rw[decide_eq_false_iff_not];omega)| (symm;rw[decide_eq_true_iff];omega)),rfl⟩
theorem hO(w:Int):
 DT 117 #[(.int .i64 (w))] T0 [] (RI (.bool (cI w)) []):=by
 refine BD 9 Tryz.func117 rfl rfl rfl λw0 F hF=>sr λ_ J1=>PS ?_
 refine nx J1 (sr λ_ J2=>P2 ?_);refine an ?_ ?_<;>intro h4
 iterate 5 refine PS ?_
 refine nx J2 (ai (au rfl rfl ?_));exact⟨congrArg Value.bool (by unfold cI;first| (rw[decide_eq_decide];omega)| (symm;rw[decide_eq_false_iff_not];omega)| (symm;rw[decide_eq_true_iff];omega)),rfl⟩;refine PS ?_;refine UF ?_;refine UF ?_;refine P2 ?_;refine nx J2 (ai (au rfl rfl ?_));exact⟨congrArg Value.bool (by unfold cI;first| (rw[decide_eq_decide];omega)| (symm;rw[decide_eq_false_iff_not];omega)| (symm;rw[decide_eq_true_iff];omega)),rfl⟩
theorem rf(key n:Int):
 DT 161 #[(.int .i64 (key)),(.int .i64 (n))] T0 [] (RI (.bool (wY key n)) []):=by
 refine BD 19 Tryz.func161 rfl rfl rfl λw0 F hF=>sr λ_ J1=>PS ?_
 refine nx J1 (sr λ_ J2=>P2 ?_);refine an ?_ ?_<;>intro h6;refine P3 ?_;refine an ?_ ?_<;>intro h9;refine P4 ?_;refine an ?_ ?_<;>intro h13;refine P3 ?_;refine CE EC (la n) ID ?_;refine P2 ?_;refine nx J2 (ai (WK [] (au rfl rfl ?_)));exact⟨congrArg Value.bool (by simp[wY,mR, *]),rfl⟩;refine P2 ?_;refine UF ?_;refine UF ?_;refine P2 ?_;refine nx J2 (ai (WK [] (au rfl rfl ?_)));exact⟨congrArg Value.bool (by simp[wY,mR, *]),rfl⟩;refine P2 ?_;refine UF ?_;refine UF ?_;refine P2 ?_;refine UF ?_;refine UF ?_;refine P2 ?_;refine nx J2 (ai (WK [] (au rfl rfl ?_)));exact⟨congrArg Value.bool (by simp[wY,mR, *]),rfl⟩;refine PS ?_;refine UF ?_;refine UF ?_;refine P2 ?_;refine UF ?_;refine UF ?_;refine P2 ?_;refine UF ?_;refine UF ?_;refine P2 ?_;refine nx J2 (ai (WK [] (au rfl rfl ?_)));exact⟨congrArg Value.bool (by simp[wY,mR, *]),rfl⟩
theorem Gh(b off T:Nat)(cs:List Value)(n:Int)(h:cs[off]?=some (.int .i64 n)):
 DT 163 #[(.pointer (some ⟨b,off,none⟩))] T0 [ah b (cs) T] (RI (.tuple #[.int .i64 n, .pointer (some ⟨b,off,none⟩)]) [ah b cs T]):=by
 refine BD 11 Tryz.func163 rfl rfl rfl λw0 F hF=>sr λ_ J1=>P2 ?_
 refine nx J1 (ab λ_ J2=>D1 0 bh ?_);refine PD 0 ?_;refine PD 1 ?_;refine ta 2 rfl (aY (r:=off) rfl mC rfl aQ rfl rfl) ?_;refine LX 3 Y3 (.int .i64 (n)) ?_ (hc:=by exact h);refine PD 4 ?_;refine PD 5 ?_;refine ta 6 rfl (aY (r:=off) rfl mC rfl aQ rfl rfl) ?_;refine PD 7 ?_;refine PD 8 ?_;exact DN (ac J2 (ai (WK [0] (iw rfl rfl rfl ⟨rfl,rfl⟩))))
theorem Gw(b off T:Nat)(cs:List Value)(n:Int)(h:cs[off+1]?=some (.int .i64 n)):
 DT 164 #[(.pointer (some ⟨b,off,none⟩))] T0 [ah b (cs) T] (RI (.tuple #[.int .i64 n, .pointer (some ⟨b,off+1,none⟩)]) [ah b cs T]):=by
 refine BD 11 Tryz.func164 rfl rfl rfl λw0 F hF=>sr λ_ J1=>P2 ?_
 refine nx J1 (ab λ_ J2=>D1 0 bh ?_);refine PD 0 ?_;refine PD 1 ?_;refine ta 2 rfl (aY (r:=off+1) rfl mC rfl aQ rfl rfl) ?_;refine LX 3 Y3 (.int .i64 (n)) ?_ (hc:=by exact h);refine PD 4 ?_;refine PD 5 ?_;refine ta 6 rfl (aY (r:=off+1) rfl mC rfl aQ rfl rfl) ?_;refine PD 7 ?_;refine PD 8 ?_;exact DN (ac J2 (ai (WK [0] (iw rfl rfl rfl ⟨rfl,rfl⟩))))
theorem Dw(b off T tb:Nat)(cs:List Value)(g:Vector Int 5)(to':Int)(ht:0≤to'∧to'<5)(h:(cs.drop (off+2)).take 5=ints g.toList):
 DT 165 #[(.pointer (some ⟨b,off,none⟩)),(.pointer (some ⟨tb,0,none⟩))] T0 [ah b (cs) T,ah tb [(.int .i64 (to'))] 3] (RI (.tuple #[.int .i64 (g.toList.foldl (λs g=>fP (s+g)) 0), .pointer (some ⟨b,off+2+to'.toNat,none⟩)]) [ah b cs T,ah tb [.int .i64 to'] 3]):=by
 refine BD 25 Tryz.func165 rfl rfl rfl λw0 F hF=>sr λ_ J1=>P2 ?_
 refine nx J1 (sr λ_ J2=>PS ?_);refine nx J2 (ab λ_ J3=>sr λ_ J4=>P2 ?_);refine tp (aY (r:=off+2) rfl mC rfl eV rfl rfl) ?_;refine tp (aN (vs:=ints g.toList) rfl jC rfl eV rfl (RO 0) (dS g) h) ?_;refine PS ?_;refine nx J4 (aq ?_)
 refine bp (α:=(Nat)×(Int)) (λ⟨k,s⟩=>k≤5∧s=(g.toList.take k).foldl (λs g=>fP (s+g)) 0) (λ⟨k,s⟩=>[(0,(.pointer (some ⟨b,off,none⟩))),(1,(.pointer (some ⟨tb,0,none⟩))),(3,(.int .i64 0)),(4,(.pointer none)),(5,(.int .i64 (s))),(11,(.agg (ints g.toList).toArray)),(12,(.int .i64 (((k:Nat):Int))))]) (λ⟨k,s⟩=>[ah b (cs) T,ah tb [(.int .i64 (to'))] 3]) (λ⟨k,s⟩=>5-k) (0,0)
  ⟨aO _,rfl⟩ SB
  (λ_ s=>s) (λ⟨k,s⟩ hinv=>?_)
 obtain⟨hk,hs⟩:=hinv;refine sr λ_ J5=>PS ?_
 refine an ?_ ?_<;>intro h13;refine nx J5 (ab λ_ J6=>CY (qx J6 (ab λ_ J7=>aq (sr λ_ J8=>tp (jQ (cs:=ints g.toList) (v:=Value.int .i64 (g[k]'(by omega))) (r:=k) rfl jC Y3 rfl aQ rfl rfl (by omega) (by omega) (by omega) (ka g (by omega))) ?_))));refine PS ?_;refine nx J8 (ad (P2 ?_));refine tp (ci (r:=(fP (s+(g[k]'(by omega))))) rfl rfl rfl rfl) ?_;refine PS ?_;refine ap (af (ac J7 (ad (AD ?_))));refine PS ?_;refine ap ?_
 exact aI ((k+1,(fP (s+(g[k]'(by omega))))):(Nat)×(Int)) ⟨by omega,by rw[co (by simp;omega),eT,←hs];simp⟩ (by show 5- (k+1)<5-k;omega)
  SB
  (λ_ s=>s)
 refine nx J5 (ab λ_ J9=>CN (aW (az (az (bm (ac J3 (ab λ_ J10=>D1 1 bh ?_)))))));refine PD 0 ?_;refine PD 1 ?_;refine LX 2 Y3 (.int .i64 (to')) ?_ (hc:=by exact rfl);refine PD 3 ?_;refine ta 4 rfl (aY (r:=off+2) rfl mC rfl eV rfl rfl) ?_;refine IY 5 (off+2+(to').toNat) jC aQ ?_;refine PD 6 ?_;refine PD 7 ?_;refine DN (ac J10 (ai (WK [0,0] (iw rfl rfl rfl ?_))));exact⟨by rw[hs,aB (by simp;omega)],rfl⟩
theorem zE(x:RowT)(key n:Int)(hk:0≤key∧key<4)(hn:1≤n∧n≤1099511627776):
 DT 162 #[(.agg (ints x.flat).toArray),(.int .i64 (key)),(.int .i64 (n)),(.func (.func 163) #[] #[])] T0 [] (RI (.tuple #[.agg (ints (lx x key n (dI x key).inn {dI x key with inn:=fP ((dI x key).inn+n)}).1.flat).toArray, .int .i64 (lx x key n (dI x key).inn {dI x key with inn:=fP ((dI x key).inn+n)}).2]) []):=by
 refine BD 36 Tryz.func162 rfl rfl rfl λw0 F hF=>?_
 have hkb:mR key=true:=decide_eq_true hk;have hcell:dI x key=x.cells[key.toNat]'(by omega):=by rw[dI,dif_pos hkb]
 refine sr λ_ J1=>XY (ints x.flat) λb4=>?_
 refine XZ uz (ints RowT.zero.flat) λb8=>?_
 refine PS ?_;refine nx J1 (sr λ_ J2=>P2 ?_);refine FA 1 dD lj ?_;refine IX (1+key.toNat*7) Ak fw ?_;refine TL.callRv (aa rfl) rfl rfl rfl rfl Mv rfl (Gh b4 (1+key.toNat*7) 60 (ints x.flat) x.cells[key.toNat].inn (uH x (key.toNat*7) (by omega) (by omega) (nE bv x.cells (i:=key.toNat) 0 (by omega) (by omega) (by decide) (rq _ rfl)))) (λ_ s=>aC [1] rfl s) (λ_ _ _=>trivial) (λvR HR hR=>?_);obtain⟨rfl,rfl⟩:=hR;refine P4 ?_;refine PS ?_;refine nx J2 (ab λ_ J3=>sr λ_ J4=>P2 ?_);refine tp (iP (r:=(1099511627776-n)) rfl rfl rfl (bI (by omega) (by omega))) ?_;refine PS ?_;refine an ?_ ?_<;>intro h23;refine nx J4 (CY (sr λ_ J5=>BV ((ints RowT.zero.flat).toArray) ?_));refine SW 1 aZ ag ?_;refine PS ?_;refine nx J5 (ai (ae (RT 1 [] dD aZ (ag _) ?_)));exact⟨by rw[lx,hcell,if_pos h23],rfl⟩;refine nx J4 (CN (qx J3 (sr λ_ J6=>P2 ?_)));refine LT 0 Y3 (.int .i64 ((x.cells[key.toNat]'(by omega)).inn)) ?_ (hc:=by exact uH x (key.toNat*7) (by omega) (by omega) (nE bv x.cells (i:=key.toNat) 0 (by omega) (by omega) (by decide) (rq (x.cells[key.toNat]'(by omega)) rfl)));refine PS ?_;refine tp (ci (r:=(fP (((x.cells[key.toNat]'(by omega)).inn)+n))) rfl rfl rfl rfl) ?_;refine PS ?_
 refine bD (i:=0) (aa rfl) rfl rfl rfl rfl rfl aQ rfl rfl (LB (ag _)) (Oj x (key.toNat*7) (by omega) (by omega) (GQ bv x.cells (i:=key.toNat) 0 (by omega) (by omega) (by decide) (CellT.set_inn _ rfl _))) rfl (nx J6 (sr λ_ J7=>FA 0 dD aQ ?_));refine LT 0 Y3 (.int .i64 (x.version)) ?_ (hc:=by exact cC _ rfl);refine tp (ci (r:=(fP (x.version+1))) rfl rfl rfl rfl) ?_;refine FA 0 dD aQ ?_;refine bD (i:=0) (aa rfl) rfl rfl rfl rfl rfl aQ rfl rfl (LB (ag _)) (w6 _ rfl _) rfl (nx J7 (sr λ_ J8=>LW 0 dD aZ ag ?_));refine SW 1 aZ ag ?_;refine PS ?_;refine nx J8 (ai (RT 1 [] dD aZ (ag _) ?_));refine⟨?_,rfl⟩;rw[lx,hcell,if_neg h23,k9,dif_pos hkb]
theorem zF(x:RowT)(key n:Int)(hk:0≤key∧key<4)(hn:1≤n∧n≤1099511627776):
 DT 162 #[(.agg (ints x.flat).toArray),(.int .i64 (key)),(.int .i64 (n)),(.func (.func 164) #[] #[])] T0 [] (RI (.tuple #[.agg (ints (lx x key n (dI x key).out {dI x key with out:=fP ((dI x key).out+n)}).1.flat).toArray, .int .i64 (lx x key n (dI x key).out {dI x key with out:=fP ((dI x key).out+n)}).2]) []):=by
 refine BD 36 Tryz.func162 rfl rfl rfl λw0 F hF=>?_
 have hkb:mR key=true:=decide_eq_true hk;have hcell:dI x key=x.cells[key.toNat]'(by omega):=by rw[dI,dif_pos hkb]
 refine sr λ_ J1=>XY (ints x.flat) λb4=>?_
 refine XZ uz (ints RowT.zero.flat) λb8=>?_
 refine PS ?_;refine nx J1 (sr λ_ J2=>P2 ?_);refine FA 1 dD lj ?_;refine IX (1+key.toNat*7) Ak fw ?_;refine TL.callRv (aa rfl) rfl rfl rfl rfl Mu rfl (Gw b4 (1+key.toNat*7) 60 (ints x.flat) x.cells[key.toNat].out (uH x (key.toNat*7+1) (by omega) (by omega) (nE bv x.cells (i:=key.toNat) 1 (by omega) (by omega) (by decide) (rm _ rfl)))) (λ_ s=>aC [1] rfl s) (λ_ _ _=>trivial) (λvR HR hR=>?_);obtain⟨rfl,rfl⟩:=hR;refine P4 ?_;refine PS ?_;refine nx J2 (ab λ_ J3=>sr λ_ J4=>P2 ?_);refine tp (iP (r:=(1099511627776-n)) rfl rfl rfl (bI (by omega) (by omega))) ?_;refine PS ?_;refine an ?_ ?_<;>intro h23;refine nx J4 (CY (sr λ_ J5=>BV ((ints RowT.zero.flat).toArray) ?_));refine SW 1 aZ ag ?_;refine PS ?_;refine nx J5 (ai (ae (RT 1 [] dD aZ (ag _) ?_)));exact⟨by rw[lx,hcell,if_pos h23],rfl⟩;refine nx J4 (CN (qx J3 (sr λ_ J6=>P2 ?_)));refine LT 0 Y3 (.int .i64 ((x.cells[key.toNat]'(by omega)).out)) ?_ (hc:=by exact uH x (key.toNat*7+1) (by omega) (by omega) (nE bv x.cells (i:=key.toNat) 1 (by omega) (by omega) (by decide) (rm (x.cells[key.toNat]'(by omega)) rfl)));refine PS ?_;refine tp (ci (r:=(fP (((x.cells[key.toNat]'(by omega)).out)+n))) rfl rfl rfl rfl) ?_;refine PS ?_
 refine bD (i:=0) (aa rfl) rfl rfl rfl rfl rfl aQ rfl rfl (LB (ag _)) (Oj x (key.toNat*7+1) (by omega) (by omega) (GQ bv x.cells (i:=key.toNat) 1 (by omega) (by omega) (by decide) (CellT.set_out _ rfl _))) rfl (nx J6 (sr λ_ J7=>FA 0 dD aQ ?_));refine LT 0 Y3 (.int .i64 (x.version)) ?_ (hc:=by exact cC _ rfl);refine tp (ci (r:=(fP (x.version+1))) rfl rfl rfl rfl) ?_;refine FA 0 dD aQ ?_;refine bD (i:=0) (aa rfl) rfl rfl rfl rfl rfl aQ rfl rfl (LB (ag _)) (w6 _ rfl _) rfl (nx J7 (sr λ_ J8=>LW 0 dD aZ ag ?_));refine SW 1 aZ ag ?_;refine PS ?_;refine nx J8 (ai (RT 1 [] dD aZ (ag _) ?_));refine⟨?_,rfl⟩;rw[lx,hcell,if_neg h23,k9,dif_pos hkb]
theorem xo(x:RowT)(key n:Int)(hk:0≤key∧key<4)(hn:1≤n∧n≤1099511627776)(tb:Nat)(to':Int)(ht:0≤to'∧to'<5):
 DT 162 #[(.agg (ints x.flat).toArray),(.int .i64 (key)),(.int .i64 (n)),(.func (.func 165) #[] #[(.pointer (some ⟨tb,0,none⟩))])] T0 [ah tb [(.int .i64 (to'))] 3] (RI (.tuple #[.agg (ints (lx x key n (GY (dI x key)) (wz (dI x key) to' (fP (lc (dI x key) to'+n)))).1.flat).toArray, .int .i64 (lx x key n (GY (dI x key)) (wz (dI x key) to' (fP (lc (dI x key) to'+n)))).2]) [ah tb [.int .i64 to'] 3]):=by
 refine Leg.Does.body (vs:=[(.agg (ints x.flat).toArray),(.int .i64 (key)),(.int .i64 (n)),(.func (.func 165) #[] #[(.pointer (some ⟨tb,0,none⟩))])]) (n:=36) Tryz.func162 rfl rfl rfl (λw0 F hF=>?_);have hkb:mR key=true:=decide_eq_true hk;have hcell:dI x key=x.cells[key.toNat]'(by omega):=by rw[dI,dif_pos hkb]
 have htb:cI to'=true:=decide_eq_true ht;refine sr λ_ J1=>?_
 refine TL.box (aa rfl) rfl rfl rfl rfl (λb4=>?_);change TL _ _ _ _ _ _ _ _ _ [ah b4 (ints x.flat) 60,ah tb [(.int .i64 (to'))] 3];refine lG (aa rfl) rfl rfl rfl uz (λb8=>?_);change TL _ _ _ _ _ _ _ _ _ [ah b8 (ints RowT.zero.flat) 60,ah b4 (ints x.flat) 60,ah tb [(.int .i64 (to'))] 3];refine pa ?_;refine nx J1 ?_;refine sr λ_ J2=>?_
 refine mv ?_;refine mv ?_;refine tp (aY (r:=1) rfl dD rfl lj rfl rfl) ?_;refine tp (eL (r:=1+key.toNat*7) rfl Ak fw rfl rfl (by omega) (by omega) (by omega)) ?_;refine TL.callRv (aa rfl) rfl rfl rfl rfl Mt rfl (Dw b4 (1+key.toNat*7) 60 tb (ints x.flat) x.cells[key.toNat].given to' ht (Ck x (key.toNat*7+2) (by omega) (by omega) (km bv x.cells (i:=key.toNat) 2 (by omega) (by omega) (by decide) (CellT.sub_given (x.cells[key.toNat]'(by omega)) 0 rfl (by decide) (whole (dS ((x.cells[key.toNat]'(by omega)).given))))))) (λ_ s=>aC [1,1] rfl s) (λ_ _ _=>trivial) (λvR HR hR=>?_);obtain⟨rfl,rfl⟩:=hR;refine mv ?_;refine tp (lK (vs:=[(.int .i64 ((GY (x.cells[key.toNat]'(by omega))))),(.pointer (some ⟨b4,1+key.toNat*7+2+to'.toNat,none⟩))]) rfl rfl rfl) ?_;refine tp (lK (vs:=[(.int .i64 ((GY (x.cells[key.toNat]'(by omega))))),(.pointer (some ⟨b4,1+key.toNat*7+2+to'.toNat,none⟩))]) rfl rfl rfl) ?_;refine pa ?_;refine pa ?_;refine nx J2 ?_;refine ab λ_ J3=>?_
 refine sr λ_ J4=>?_
 refine mv ?_;refine mv ?_;refine tp (iP (r:=(1099511627776-n)) rfl rfl rfl (bI (by omega) (by omega))) ?_;refine tp (PV.gtr rfl rfl rfl) ?_;refine an (λh23=>?_) (λh23=>?_);refine nx J4 ?_;refine iO rfl ?_;refine sr λ_ J5=>?_
 refine tp (jR (cells:=(ints RowT.zero.flat).toArray) rfl rfl (by as_aux_lemma=>kernel_rfl)) ?_;refine bJ (vs:=ints RowT.zero.flat) (i:=2) (aa rfl) rfl rfl rfl rfl rfl (by rw[(ag RowT.zero)];exact aZ) (bw _) rfl rfl (by have h0:=(ag RowT.zero);have h1:=(ag RowT.zero);omega) (cn ((ag RowT.zero).trans (ag RowT.zero).symm)) rfl ?_;refine pa ?_;refine nx J5 ?_;refine ai ?_;refine ae ?_;refine lH (H':=[ah tb [(.int .i64 (to'))] 3]) rfl rfl rfl dD rfl aZ (dN 2 rfl rfl) (ag RowT.zero) (λ_ s=>ak [1] rfl s) ?_;exact⟨by rw[lx,hcell,if_pos h23],rfl⟩;refine nx J4 ?_;refine sO rfl ?_;refine aR ?_;refine ac J3 ?_;refine sr λ_ J6=>?_
 refine mv ?_;refine tp (fX rfl rfl) ?_;refine tp (fc (v:=(.int .i64 ((((x.cells[key.toNat]'(by omega)).given)[to'.toNat]'(by omega))))) rfl Y3 rfl rfl (dN 0 rfl rfl) (uH x (key.toNat*7+2+to'.toNat) (by omega) (by omega) (nE bv x.cells (i:=key.toNat) (2+to'.toNat) (by omega) (by omega) (by omega) (Nj (x.cells[key.toNat]'(by omega)) (to'.toNat) (by omega) (by omega) (ka ((x.cells[key.toNat]'(by omega)).given) (by omega)))))) ?_;refine mv ?_;refine tp (ci (r:=(fP ((((x.cells[key.toNat]'(by omega)).given)[to'.toNat]'(by omega))+n))) rfl rfl rfl rfl) ?_;refine tp (fX rfl rfl) ?_;refine bD (i:=0) (aa rfl) rfl rfl rfl rfl rfl aQ rfl rfl (by have h0:=(ag x);omega) (Oj x (key.toNat*7+2+to'.toNat) (by omega) (by omega) (GQ bv x.cells (i:=key.toNat) (2+to'.toNat) (by omega) (by omega) (by omega) (CellT.st_given (x.cells[key.toNat]'(by omega)) (to'.toNat) (by omega) (by omega) (xW ((x.cells[key.toNat]'(by omega)).given) (by omega) _)))) rfl ?_;refine nx J6 ?_;refine sr λ_ J7=>?_
 refine tp (aY (r:=0) rfl dD rfl aQ rfl rfl) ?_;refine tp (fc (v:=(.int .i64 (x.version))) rfl Y3 rfl rfl (dN 0 rfl rfl) (cC (RowT.mk x.version (x.cells.set key.toNat (CellT.mk ((x.cells[key.toNat]'(by omega)).inn) ((x.cells[key.toNat]'(by omega)).out) (((x.cells[key.toNat]'(by omega)).given).set to'.toNat (fP ((((x.cells[key.toNat]'(by omega)).given)[to'.toNat]'(by omega))+n)) (by omega))) (by omega)) x.heir x.left) rfl)) ?_;refine tp (ci (r:=(fP (x.version+1))) rfl rfl rfl rfl) ?_;refine tp (aY (r:=0) rfl dD rfl aQ rfl rfl) ?_;refine bD (i:=0) (aa rfl) rfl rfl rfl rfl rfl aQ rfl rfl (by have h0:=(ag (RowT.mk x.version (x.cells.set key.toNat (CellT.mk ((x.cells[key.toNat]'(by omega)).inn) ((x.cells[key.toNat]'(by omega)).out) (((x.cells[key.toNat]'(by omega)).given).set to'.toNat (fP ((((x.cells[key.toNat]'(by omega)).given)[to'.toNat]'(by omega))+n)) (by omega))) (by omega)) x.heir x.left));omega) (w6 (RowT.mk x.version (x.cells.set key.toNat (CellT.mk ((x.cells[key.toNat]'(by omega)).inn) ((x.cells[key.toNat]'(by omega)).out) (((x.cells[key.toNat]'(by omega)).given).set to'.toNat (fP ((((x.cells[key.toNat]'(by omega)).given)[to'.toNat]'(by omega))+n)) (by omega))) (by omega)) x.heir x.left) rfl _) rfl ?_;refine nx J7 ?_;refine sr λ_ J8=>?_
 refine tp (aN (vs:=ints (RowT.mk (fP (x.version+1)) (x.cells.set key.toNat (CellT.mk ((x.cells[key.toNat]'(by omega)).inn) ((x.cells[key.toNat]'(by omega)).out) (((x.cells[key.toNat]'(by omega)).given).set to'.toNat (fP ((((x.cells[key.toNat]'(by omega)).given)[to'.toNat]'(by omega))+n)) (by omega))) (by omega)) x.heir x.left).flat) rfl dD rfl aZ rfl (dN 0 rfl rfl) (ag (RowT.mk (fP (x.version+1)) (x.cells.set key.toNat (CellT.mk ((x.cells[key.toNat]'(by omega)).inn) ((x.cells[key.toNat]'(by omega)).out) (((x.cells[key.toNat]'(by omega)).given).set to'.toNat (fP ((((x.cells[key.toNat]'(by omega)).given)[to'.toNat]'(by omega))+n)) (by omega))) (by omega)) x.heir x.left)) (whole (ag (RowT.mk (fP (x.version+1)) (x.cells.set key.toNat (CellT.mk ((x.cells[key.toNat]'(by omega)).inn) ((x.cells[key.toNat]'(by omega)).out) (((x.cells[key.toNat]'(by omega)).given).set to'.toNat (fP ((((x.cells[key.toNat]'(by omega)).given)[to'.toNat]'(by omega))+n)) (by omega))) (by omega)) x.heir x.left)))) ?_
 refine bJ (vs:=ints (RowT.mk (fP (x.version+1)) (x.cells.set key.toNat (CellT.mk ((x.cells[key.toNat]'(by omega)).inn) ((x.cells[key.toNat]'(by omega)).out) (((x.cells[key.toNat]'(by omega)).given).set to'.toNat (fP ((((x.cells[key.toNat]'(by omega)).given)[to'.toNat]'(by omega))+n)) (by omega))) (by omega)) x.heir x.left).flat) (i:=2) (aa rfl) rfl rfl rfl rfl rfl (by rw[(ag (RowT.mk (fP (x.version+1)) (x.cells.set key.toNat (CellT.mk ((x.cells[key.toNat]'(by omega)).inn) ((x.cells[key.toNat]'(by omega)).out) (((x.cells[key.toNat]'(by omega)).given).set to'.toNat (fP ((((x.cells[key.toNat]'(by omega)).given)[to'.toNat]'(by omega))+n)) (by omega))) (by omega)) x.heir x.left))];exact aZ) (bw _) rfl rfl (by have h0:=(ag RowT.zero);have h1:=(ag (RowT.mk (fP (x.version+1)) (x.cells.set key.toNat (CellT.mk ((x.cells[key.toNat]'(by omega)).inn) ((x.cells[key.toNat]'(by omega)).out) (((x.cells[key.toNat]'(by omega)).given).set to'.toNat (fP ((((x.cells[key.toNat]'(by omega)).given)[to'.toNat]'(by omega))+n)) (by omega))) (by omega)) x.heir x.left));omega) (cn ((ag RowT.zero).trans (ag (RowT.mk (fP (x.version+1)) (x.cells.set key.toNat (CellT.mk ((x.cells[key.toNat]'(by omega)).inn) ((x.cells[key.toNat]'(by omega)).out) (((x.cells[key.toNat]'(by omega)).given).set to'.toNat (fP ((((x.cells[key.toNat]'(by omega)).given)[to'.toNat]'(by omega))+n)) (by omega))) (by omega)) x.heir x.left)).symm)) rfl ?_;refine pa ?_;refine nx J8 ?_;refine ai ?_
 refine lH (H':=[ah tb [(.int .i64 (to'))] 3]) rfl rfl rfl dD rfl aZ (dN 2 rfl rfl) (ag (RowT.mk (fP (x.version+1)) (x.cells.set key.toNat (CellT.mk ((x.cells[key.toNat]'(by omega)).inn) ((x.cells[key.toNat]'(by omega)).out) (((x.cells[key.toNat]'(by omega)).given).set to'.toNat (fP ((((x.cells[key.toNat]'(by omega)).given)[to'.toNat]'(by omega))+n)) (by omega))) (by omega)) x.heir x.left)) (λ_ s=>ak [1] rfl s) ?_;refine⟨?_,rfl⟩;rw[lx,hcell,if_neg h23,k9,dif_pos hkb];simp[wz,lc,htb]
theorem A6(x:RowT)(key n:Int):
 DT 133 #[(.agg (ints x.flat).toArray),(.int .i64 (key)),(.int .i64 (n))] T0 [] (RI (.tuple #[.agg (ints (pC x key n).1.flat).toArray, .int .i64 (pC x key n).2]) []):=by
 refine BD 19 Tryz.func133 rfl rfl rfl λw0 F hF=>sr λ_ J1=>XY (ints x.flat) λb3=>?_
 refine XZ uz (ints RowT.zero.flat) λb6=>?_
 refine PS ?_;refine nx J1 (ab λ_ J2=>sr λ_ J3=>P2 ?_);refine CE Ht (rf key n) ID ?_;refine aX ?_ ?_<;>intro h10;have hq:=h10;unfold wY mR Ev at hq;simp only[av,decide_eq_true_iff]at hq;have hk:0≤key∧key<4:=hq.1.1;have hn:1≤n∧n≤1099511627776:=⟨hq.1.2,hq.2.2⟩;refine PS ?_;refine nx J3 (CN (qx J2 (sr λ_ J4=>LW 1 dD aZ ag ?_)));refine P2 ?_;refine CE Hs (zE x key n hk hn) ID ?_;refine P2 ?_;refine SW 0 aZ ag ?_;refine PS ?_;refine nx J4 (ai (RT 0 [] dD aZ (ag _) ?_));exact⟨by simp[pC, *],rfl⟩;refine PS ?_;refine nx J3 (CY (sr λ_ J5=>BV ((ints RowT.zero.flat).toArray) ?_));refine SW 0 aZ ag ?_;refine PS ?_;refine nx J5 (ai (ae (RT 0 [] dD aZ (ag _) ?_)));exact⟨by simp[pC, *],rfl⟩
theorem A7(x:RowT)(key n:Int):
 DT 134 #[(.agg (ints x.flat).toArray),(.int .i64 (key)),(.int .i64 (n))] T0 [] (RI (.tuple #[.agg (ints (pD x key n).1.flat).toArray, .int .i64 (pD x key n).2]) []):=by
 refine BD 19 Tryz.func134 rfl rfl rfl λw0 F hF=>sr λ_ J1=>XY (ints x.flat) λb3=>?_
 refine XZ uz (ints RowT.zero.flat) λb6=>?_
 refine PS ?_;refine nx J1 (ab λ_ J2=>sr λ_ J3=>P2 ?_);refine CE Ht (rf key n) ID ?_;refine aX ?_ ?_<;>intro h10;have hq:=h10;unfold wY mR Ev at hq;simp only[av,decide_eq_true_iff]at hq;have hk:0≤key∧key<4:=hq.1.1;have hn:1≤n∧n≤1099511627776:=⟨hq.1.2,hq.2.2⟩;refine PS ?_;refine nx J3 (CN (qx J2 (sr λ_ J4=>LW 1 dD aZ ag ?_)));refine P2 ?_;refine CE Hs (zF x key n hk hn) ID ?_;refine P2 ?_;refine SW 0 aZ ag ?_;refine PS ?_;refine nx J4 (ai (RT 0 [] dD aZ (ag _) ?_));exact⟨by simp[pD, *],rfl⟩;refine PS ?_;refine nx J3 (CY (sr λ_ J5=>BV ((ints RowT.zero.flat).toArray) ?_));refine SW 0 aZ ag ?_;refine PS ?_;refine nx J5 (ai (ae (RT 0 [] dD aZ (ag _) ?_)));exact⟨by simp[pD, *],rfl⟩
theorem zj(x:RowT)(key n to':Int):
 DT 135 #[(.agg (ints x.flat).toArray),(.int .i64 (key)),(.int .i64 (n)),(.int .i64 (to'))] T0 [] (RI (.tuple #[.agg (ints (mg x key n to').1.flat).toArray, .int .i64 (mg x key n to').2]) []):=by
 refine BD 27 Tryz.func135 rfl rfl rfl λw0 F hF=>sr λ_ J1=>XY (ints x.flat) λb4=>?_
 refine XB λb7=>?_
 refine XZ uz (ints RowT.zero.flat) λb8=>?_
 refine PS ?_;refine nx J1 (ab λ_ J2=>sr λ_ J3=>LA 1 Y3 ?_);refine CE Ex (jU to') ID ?_;refine aX ?_ ?_<;>intro h11;refine PS ?_;refine P3 ?_;refine CE Ht (rf key n) ID ?_;refine aX ?_ ?_<;>intro h16;have hq:=h16;unfold wY mR Ev at hq;simp only[av,decide_eq_true_iff]at hq;have hk:0≤key∧key<4:=hq.1.1;have hn:1≤n∧n≤1099511627776:=⟨hq.1.2,hq.2.2⟩;have ht:0≤to'∧to'<5:=of_decide_eq_true h11;refine PS ?_;refine PS ?_;refine nx J3 (CN (qx J2 (sr λ_ J4=>LW 2 dD aZ ag ?_)));refine P2 ?_;refine tp (OA rfl rfl) ?_;refine CE Hs (xo x key n hk hn b7 to' ht) (SM [1]) ?_;refine P2 ?_;refine SW 1 aZ ag ?_;refine PS ?_;refine nx J4 (ai (RT 1 [] dD aZ (ag _) ?_));exact⟨by simp[mg, *],rfl⟩;refine PS ?_;refine PS ?_;refine nx J3 (CY (sr λ_ J5=>BV ((ints RowT.zero.flat).toArray) ?_));refine SW 0 aZ ag ?_;refine PS ?_;refine nx J5 (ai (ae (RT 0 [] dD aZ (ag _) ?_)));exact⟨by simp[mg, *],rfl⟩;refine PS ?_;refine PS ?_
 iterate 4 refine UT ?_
 refine PS ?_;refine nx J3 (CY (sr λ_ J6=>BV ((ints RowT.zero.flat).toArray) ?_));refine SW 0 aZ ag ?_;refine PS ?_;refine nx J6 (ai (ae (RT 0 [] dD aZ (ag _) ?_)));exact⟨by simp[mg, *],rfl⟩
theorem A5(x:RowT)(who:Int):
 DT 115 #[(.agg (ints x.flat).toArray),(.int .i64 (who))] T0 [] (dm (λr' H=>∃u,r'=u∧H=[own u (gg x who).length (ints (gg x who)) 3 1])):=by
 refine BD 27 Tryz.func115 rfl rfl rfl λw0 F hF=>sr λ_ J1=>XY (ints x.flat) λb2=>?_
 refine PS ?_;refine nx J1 (sr λ_ J2=>PS ?_);refine nx J2 (ab λ_ J3=>sr λ_ J4=>FA 29 dD eV ?_);refine tp (aN (vs:=ints x.heir.toList) rfl jC rfl eV rfl (RO 0) (dS x.heir) (Oi x 0 rfl (by decide) (whole (dS x.heir)))) ?_;refine PS ?_;refine nx J4 (aq ?_)
 refine bp (α:=(Nat)×(Value)) (λ⟨k,u⟩=>k≤5∧u.oneCell'=true) (λ⟨k,u⟩=>[(1,(.int .i64 (who))),(4,(.slice none 0 0)),(5,u),(9,(.agg (ints x.heir.toList).toArray)),(10,(.int .i64 (((k:Nat):Int))))]) (λ⟨k,u⟩=>[own u ((ii x who k).length) (ints (ii x who k)) 3 1]) (λ⟨k,u⟩=>5-k) (0,(.slice none 0 0))
  ⟨aO _,rfl⟩ SB
  (λ_ s=>gC 3 1 (ak [] rfl s)) (λ⟨k,u⟩ hinv=>?_)
 obtain⟨hk,hu⟩:=hinv;have hol:=FW x who k;refine sr λ_ J5=>PS ?_
 refine an ?_ ?_<;>intro h11;refine nx J5 (ab λ_ J6=>CY (qx J6 (ab λ_ J7=>aq (sr λ_ J8=>PS ?_))));refine tp (jQ (cs:=ints x.heir.toList) (v:=Value.int .i64 (x.heir[k]'(by omega))) (r:=k) rfl jC Y3 rfl aQ rfl rfl (by omega) (by omega) (by omega) (ka x.heir (by omega))) ?_;refine P2 ?_;refine nx J8 (sr λ_ J9=>P3 ?_);refine an ?_ ?_<;>intro h16;refine PS ?_;refine UT ?_;refine UT ?_;refine PS ?_;refine nx J9 (CY (ad (P2 ?_)));refine aU (cells:=#[(.int .i64 (((k:Nat):Int)))]) (aa rfl) rfl rfl rfl j9 qX rfl rfl rfl (by as_aux_lemma=>kernel_rfl) (λb23=>cH (k:=1) (news:=[(.int .i64 (((k:Nat):Int)))]) (nn':=(ii x who k).length+1) (xs':=ints (ii x who k)++[(.int .i64 (((k:Nat):Int)))]) (aa rfl) rfl rfl rfl j9 qX rfl rfl rfl rfl rfl rfl (λ_ _=>ju rfl (RO 0) rfl) (by simp[Value.oneCell']) (by simp only[maxLen];omega) (by omega) (by simp) (by simp) (λv24 ov24=>PS ?_));refine ap (af (ac J7 (ad (AD ?_))));refine PS ?_;refine ap ?_
 exact aI ((k+1,v24):(Nat)×(Value)) ⟨by omega,ov24⟩ (by show 5- (k+1)<5-k;omega)
  SB
  (λ_ s=>by
   show bE [own v24 (ii x who (k+1)).length (ints (ii x who (k+1))) 3 1] _;rw[show ii x who (k+1)=ii x who k++[((k:Nat):Int)]by rw[qP,if_pos (by rw[vW x who (by omega)];simp;omega)],aj,ej]
   exact ak [1] rfl s)
 refine P3 ?_;refine an ?_ ?_<;>intro h19;refine PS ?_;refine nx J9 (CY (ad (P2 ?_)));refine aU (cells:=#[(.int .i64 (((k:Nat):Int)))]) (aa rfl) rfl rfl rfl j9 qX rfl rfl rfl (by as_aux_lemma=>kernel_rfl) (λb23=>cH (k:=1) (news:=[(.int .i64 (((k:Nat):Int)))]) (nn':=(ii x who k).length+1) (xs':=ints (ii x who k)++[(.int .i64 (((k:Nat):Int)))]) (aa rfl) rfl rfl rfl j9 qX rfl rfl rfl rfl rfl rfl (λ_ _=>ju rfl (RO 0) rfl) (by simp[Value.oneCell']) (by simp only[maxLen];omega) (by omega) (by simp) (by simp) (λv24 ov24=>PS ?_));refine ap (af (ac J7 (ad (AD ?_))));refine PS ?_;refine ap ?_
 exact aI ((k+1,v24):(Nat)×(Value)) ⟨by omega,ov24⟩ (by show 5- (k+1)<5-k;omega)
  SB
  (λ_ s=>by
   show bE [own v24 (ii x who (k+1)).length (ints (ii x who (k+1))) 3 1] _;rw[show ii x who (k+1)=ii x who k++[((k:Nat):Int)]by rw[qP,if_pos (by rw[vW x who (by omega)];simp;omega)],aj,ej]
   exact ak [1] rfl s)
 refine PS ?_;refine nx J9 (CN (aR (af (ac J7 (ad (AD ?_))))));refine PS ?_;refine ap ?_
 exact aI ((k+1,u):(Nat)×(Value)) ⟨by omega,hu⟩ (by show 5- (k+1)<5-k;omega)
  SB
  (λ_ s=>by
   show bE [own u (ii x who (k+1)).length (ints (ii x who (k+1))) 3 1] _;rw[show ii x who (k+1)=ii x who k by rw[qP,if_neg (by rw[vW x who (by omega)];simp;omega),ba]]
   exact ak [0] rfl s)
 refine nx J5 (ab λ_ J10=>CN (aW (az (az (bm (ac J3 (sr λ_ J11=>P2 ?_)))))));refine nx J11 (ai (WK [0] (au rfl rfl ?_)));obtain rfl:k=5:=by omega
 exact⟨u,rfl,rfl⟩
theorem zk(x:RowT)(who of' key:Int):
 DT 116 #[(.agg (ints x.flat).toArray),(.int .i64 (who)),(.int .i64 (of')),(.int .i64 (key))] T0 [] (RI (.tuple #[.agg (ints (jV x who of' key).1.flat).toArray, .int .i64 (jV x who of' key).2]) []):=by
 refine BD 53 Tryz.func116 rfl rfl rfl λw0 F hF=>sr λ_ J1=>XY (ints x.flat) λb4=>?_
 refine XZ IB (ints CellT.zero.flat) λb8=>?_
 refine PS ?_;refine nx J1 (ab λ_ J2=>sr λ_ J3=>PS ?_);refine CE Ex (jU who) ID ?_;refine aX ?_ ?_<;>intro h11;refine PS ?_;refine P2 ?_;refine CE Ex (jU of') ID ?_;refine aX ?_ ?_<;>intro h15;refine PS ?_;refine P4 ?_;refine an ?_ ?_<;>intro h20;have hkb:mR key=false:=decide_eq_false (by omega);refine P2 ?_;refine UT ?_;refine UT ?_;refine PS ?_;refine nx J3 (CY (sr λ_ J4=>BV ((ints CellT.zero.flat).toArray) ?_));refine SW 0 fw bo ?_;refine PS ?_;refine nx J4 (ai (ae (RT 0 [] mC fw (bo _) ?_)));exact⟨by simp[jV, *],rfl⟩;refine P4 ?_;refine an ?_ ?_<;>intro h24;have hkb:mR key=false:=decide_eq_false (by omega);refine PS ?_;refine nx J3 (CY (sr λ_ J5=>BV ((ints CellT.zero.flat).toArray) ?_));refine SW 0 fw bo ?_;refine PS ?_;refine nx J5 (ai (ae (RT 0 [] mC fw (bo _) ?_)));exact⟨by simp[jV, *],rfl⟩;have hw:cI who=true:=by simpa using h11
 have ho:cI of'=true:=by simpa using h15
 have hw2:0≤who∧who<5:=of_decide_eq_true hw;have ho2:0≤of'∧of'<5:=of_decide_eq_true ho;have hkb:mR key=true:=decide_eq_true ⟨by omega,by omega⟩;have e1:fN x of'=x.heir[of'.toNat]'(by omega):=by rw[fN,dif_pos ho]
 have e2:Ds x of' key=(x.left[of'.toNat]'(by omega))[key.toNat]'(by omega):=by rw[Ds,dif_pos ⟨ho,hkb⟩]
 have e3:dI x key=x.cells[key.toNat]'(by omega):=by rw[dI,dif_pos hkb]
 refine PS ?_;refine nx J3 (CN (qx J2 (ab λ_ J6=>sr λ_ J7=>P3 ?_)));refine an ?_ ?_<;>intro h29;refine nx J7 (CY (ab λ_ J8=>D1 1 bh ?_));refine PD 0 ?_;refine FD 1 1 dD lj ?_;refine IY 2 (1+key.toNat*7) Ak fw ?_;refine ta 3 rfl (aN (vs:=ints (x.cells[key.toNat]'(by omega)).flat) rfl mC rfl fw rfl (λ_ h=>h.2.1) (bo (x.cells[key.toNat]'(by omega))) (Ck x (key.toNat*7) (by omega) (by omega) (km bv x.cells (i:=key.toNat) 0 (by omega) (by omega) (by decide) (whole (bo (x.cells[key.toNat]'(by omega))))))) ?_;refine FD 4 0 dD aQ ?_;refine LR 5 Y3 (cC x rfl) ?_;refine AL 6 ?_;refine SW 0 fw bo ?_;refine EN (PD 7 ?_);refine DN (ac J8 (ai (ae (RT 0 [] mC fw (bo _) ?_))));exact⟨by simp[jV, *],rfl⟩;refine nx J7 (CN (qx J6 (ab λ_ J9=>sr λ_ J10=>PS ?_)));refine FA 29 dD eV ?_;refine IX (29+(of').toNat) jC aQ ?_;refine LT 1 Y3 (.int .i64 ((x.heir[(of').toNat]'(by omega)))) ?_ (hc:=by exact ri x ((of').toNat) (by omega) (by omega) (ka x.heir (by omega)));refine PS ?_;refine an ?_ ?_<;>intro h40;refine nx J10 (CY (ab λ_ J11=>D1 1 bh ?_));refine PD 0 ?_;refine PD 1 ?_;refine FD 2 34 dD Az ?_;refine IY 3 (34+((of').toNat)*28) Kr lj ?_;refine IY 4 (34+((of').toNat)*28+key.toNat*7) Ak fw ?_
 refine ta 5 rfl (aN (vs:=ints ((x.left[(of').toNat]'(by omega))[key.toNat]'(by omega)).flat) rfl mC rfl fw rfl (λ_ h=>h.2.1) (bo ((x.left[(of').toNat]'(by omega))[key.toNat]'(by omega))) (E3 x (((of').toNat)*28+key.toNat*7) (by omega) (by omega) (km sX x.left (i:=(of').toNat) (key.toNat*7) (by omega) (by omega) (by omega) (km bv (x.left[(of').toNat]'(by omega)) (i:=key.toNat) 0 (by omega) (by omega) (by decide) (whole (bo ((x.left[(of').toNat]'(by omega))[key.toNat]'(by omega)))))))) ?_;refine PD 6 ?_;refine FD 7 29 dD eV ?_;refine IY 8 (29+(of').toNat) jC aQ ?_;refine LX 9 Y3 (.int .i64 ((x.heir[(of').toNat]'(by omega)))) ?_ (hc:=by exact ri x ((of').toNat) (by omega) (by omega) (ka x.heir (by omega)));refine ta 10 rfl (iP (r:=(fP ((x.heir[(of').toNat]'(by omega))-1))) rfl rfl rfl rfl) ?_;refine AL 11 ?_;refine SW 0 fw bo ?_;refine EN (PD 12 ?_);refine DN (ac J11 (ai (ae (RT 0 [] mC fw (bo _) ?_))));exact⟨by simp[jV, *],rfl⟩;refine nx J10 (CN (qx J9 (sr λ_ J12=>BV ((ints CellT.zero.flat).toArray) ?_)));refine SW 0 fw bo ?_;refine PS ?_;refine nx J12 (ai (RT 0 [] mC fw (bo _) ?_));exact⟨by simp[jV, *],rfl⟩;refine PS ?_;refine P2 ?_;refine UT ?_;refine UT ?_;refine P2 ?_;refine UT ?_;refine UT ?_;refine PS ?_;refine nx J3 (CY (sr λ_ J13=>BV ((ints CellT.zero.flat).toArray) ?_));refine SW 0 fw bo ?_;refine PS ?_;refine nx J13 (ai (ae (RT 0 [] mC fw (bo _) ?_)));exact⟨by simp[jV, *],rfl⟩;refine PS ?_;refine PS ?_
 iterate 3 refine UT ?_
 refine P2 ?_;refine UT ?_;refine UT ?_;refine P2 ?_;refine UT ?_;refine UT ?_;refine PS ?_;refine nx J3 (CY (sr λ_ J14=>BV ((ints CellT.zero.flat).toArray) ?_));refine SW 0 fw bo ?_;refine PS ?_;refine nx J14 (ai (ae (RT 0 [] mC fw (bo _) ?_)));exact⟨by simp[jV, *],rfl⟩
theorem pg(who:Int):
 DT 34 #[(.int .i64 (who))] T0 [] (dm (λr' H=>∃u,r'=u∧H=[own u (gI who).length (ints (gI who)) 3 1])):=by
 refine BD 20 Tryz.func34 rfl rfl rfl λw0 F hF=>sr λ_ J1=>PS ?_
 refine nx J1 (ab λ_ J2=>sr λ_ J3=>PS ?_);refine CE Hp (jG who) ID ?_;refine aX ?_ ?_<;>intro h6;have hm:0≤who∧who<5:=of_decide_eq_true h6;refine PS ?_;refine nx J3 (CN (qx J2 (sr λ_ J4=>M8 3 1 (λon=>?_))));clear on;refine PS ?_;refine nx J4 (ab λ_ J5=>sr λ_ J6=>PS ?_);refine nx J6 (aq (ru 3 (ab λ_ J7=>sr λ_ J8=>P2 ?_)));refine nx J8 (CY (qx J7 (ab λ_ J9=>aq (ad (P3 ?_)))));refine tp (ci (r:=(who+1)) rfl rfl rfl (bI (by omega) (by omega))) ?_;refine tp (PV.rem (r:=((who+1)%5)) rfl rfl rfl (by omega) (Ep (by omega))) ?_;refine aU (cells:=#[(.int .i64 (((who+1)%5)))]) (aa rfl) rfl rfl rfl j9 qX rfl rfl rfl (by as_aux_lemma=>kernel_rfl) (λb17=>cH (k:=1) (news:=[(.int .i64 (((who+1)%5)))]) (nn':=1) (xs':=[(.int .i64 (((who+1)%5)))]) (aa rfl) rfl rfl rfl j9 qX rfl rfl rfl rfl rfl rfl (λ_ _=>ju rfl (RO 0) rfl) (by simp[Value.oneCell']) (by simp only[maxLen];omega) (by omega) (by simp) (by simp) (λv18 ov18=>PS ?_));refine ap (af (ac J9 (ad (PS ?_))));refine tp (ci (r:=2) rfl rfl rfl (by decide)) ?_;refine PS ?_;refine ap (ek (ab λ_ J10=>sr λ_ J11=>P2 ?_));refine nx J11 (CY (qx J10 (ab λ_ J12=>aq (ad (P3 ?_)))));refine tp (ci (r:=(who+2)) rfl rfl rfl (bI (by omega) (by omega))) ?_;refine tp (PV.rem (r:=((who+2)%5)) rfl rfl rfl (by omega) (Ep (by omega))) ?_
 refine cr (H':=[own v18 (1) ([(.int .i64 (((who+1)%5)))]) 3 1]) (λ_ s=>ak [1] rfl s) (aU (cells:=#[(.int .i64 (((who+2)%5)))]) (aa rfl) rfl rfl rfl j9 qX rfl rfl rfl (by as_aux_lemma=>kernel_rfl) (λb17=>cH (k:=1) (news:=[(.int .i64 (((who+2)%5)))]) (nn':=1+1) (xs':=[(.int .i64 (((who+1)%5)))]++[(.int .i64 (((who+2)%5)))]) (aa rfl) rfl rfl rfl j9 qX rfl rfl rfl rfl rfl rfl (λ_ _=>ju rfl (RO 0) rfl) (by simp[Value.oneCell']) (by simp only[maxLen];omega) (by omega) (by simp) (by simp) (λv18 ov18=>PS ?_)));refine ap (af (ac J12 (ad (PS ?_))));refine tp (ci (r:=3) rfl rfl rfl (by decide)) ?_;refine PS ?_;refine ap (ek (ab λ_ J13=>sr λ_ J14=>P2 ?_));refine nx J14 (CN (aW (az (az (bm (ac J5 (sr λ_ J15=>P2 ?_)))))));refine nx J15 (ai (WK [1] (au rfl rfl ?_)));exact⟨_,rfl,by rw[gI,if_pos h6];rfl⟩;refine PS ?_;refine nx J3 (CY (sr λ_ J16=>PS ?_));refine nx J16 (ai (ae (aF (H':=[own (.slice none 0 0) 0 [] 3 1]) (di _) (λ_ s=>gC 3 1 s) (au rfl rfl ?_))));exact⟨_,rfl,by rw[gI,if_neg (by simp[h6])];rfl⟩
theorem mq(b off T:Nat)(cs:BookT→List Value)(hA:Arnd cs (λx=>ints x.flat) off)(B:BookT)(who:Int):
 DT 43 #[(.pointer (some ⟨b,off,none⟩)),(.int .i64 (who))] T0 [ah b (cs B) T] (RI (.agg (ints (cw B who).flat).toArray) [ah b (cs B) T]):=by
 refine BD 15 Tryz.func43 rfl rfl rfl λw0 F hF=>sr λ_ J1=>XZ uz (ints RowT.zero.flat) λb4=>?_
 refine nx J1 (ab λ_ J2=>sr λ_ J3=>PS ?_);refine CE KN (kY who) ID ?_;refine aX ?_ ?_<;>intro h6;have hm:0≤who∧who<5:=of_decide_eq_true h6;refine PS ?_;refine nx J3 (CN (qx J2 (sr λ_ J4=>P3 ?_)));refine tp (aY (r:=off) rfl Iq rfl s7 rfl rfl) ?_;refine IX (off+who.toNat*174) GE aZ ?_;refine tp (aN (vs:=ints (B.rows[who.toNat]'(by omega)).flat) rfl dD rfl aZ rfl (RO 1) (ag (B.rows[who.toNat]'(by omega))) (Np hA (j:=who.toNat*174) (by omega) (LB (xa _)) (Nl B (who.toNat*174) (by omega) (by omega) (km dr B.rows (i:=who.toNat) 0 (by omega) (by omega) (by decide) (whole (ag (B.rows[who.toNat]'(by omega)))))))) ?_;refine SW 0 aZ ag ?_;refine nx J4 (ai (RC 0 [1] dD aZ (ag _) ?_));exact⟨by rw[cw,dif_pos h6],rfl⟩;refine PS ?_;refine nx J3 (CY (sr λ_ J5=>BV ((ints RowT.zero.flat).toArray) ?_));refine SW 0 aZ ag ?_;refine nx J5 (ai (ae (RC 0 [1] dD aZ (ag _) ?_)));exact⟨by rw[cw,dif_neg (by simp[h6])],rfl⟩
theorem kG(b off T:Nat)(cs:BookT→List Value)(hA:Arnd cs (λx=>ints x.flat) off)(B:BookT)(who:Int)(x:RowT)(hx:WF x.flat):
 DT 75 #[(.pointer (some ⟨b,off,none⟩)),(.int .i64 (who)),(.agg (ints x.flat).toArray)] T0 [ah b (cs B) T] (RI (.bool (fy B who x).2) [ah b (cs (fy B who x).1) T]):=by
 refine BD 33 Tryz.func75 rfl rfl rfl λw0 F hF=>sr λ_ J1=>XY (ints x.flat) λb5=>?_
 refine PS ?_;refine nx J1 (ab λ_ J2=>ab λ_ J3=>D2 0 1 bh ?_);refine PD 0 ?_;refine AL 1 ?_;refine CE KN (kY who) ID ?_;refine aX ?_ ?_<;>intro h8;have hm:0≤who∧who<5:=of_decide_eq_true h8;have hrow:cw B who=B.rows[who.toNat]'(by omega):=by rw[cw,dif_pos h8]
 refine ap (E2 0 1 (PD 2 ?_));refine PD 3 ?_;refine LY 4 dD aZ ag ?_;refine AL 5 ?_;refine CE Bj (fW x hx) ID ?_;refine aX ?_ ?_<;>intro h12;refine ap (E2 0 1 (PD 6 ?_));refine PD 7 ?_;refine PD 8 ?_;refine FD 9 0 dD aQ ?_;refine LR 10 Y3 (cC x rfl) ?_;refine PD 11 ?_;refine PD 12 ?_;refine PD 13 ?_;refine tb 14 rfl (aY (r:=off) rfl Iq rfl s7 rfl rfl) ?_;refine IY 15 (off+who.toNat*174) GE aZ ?_;refine tb 16 rfl (aY (r:=off+who.toNat*174) rfl dD rfl aQ rfl rfl) ?_;refine LX 17 Y3 (.int .i64 ((B.rows[who.toNat]'(by omega)).version)) ?_ (hc:=by exact Arnd.at hA (j:=who.toNat*174) (by omega) (LB (xa _)) (BookT.pt_rows B (who.toNat*174) (by omega) (by omega) (nE dr B.rows (i:=who.toNat) 0 (by omega) (by omega) (by decide) (cC _ rfl))));refine PD 18 ?_;refine iN ?_ ?_<;>intro h25;refine PD 19 ?_;refine DN (ac J3 (CY (sr λ_ J4=>PS ?_)));refine nx J4 (ai (ae (WK [1] (au rfl rfl ?_))));have e:fy B who x=(B,false):=by rw[fy,if_neg (λh=>by simp only[av,decide_eq_true_iff]at h;rw[hrow]at h;omega)]
 exact⟨by rw[e],by rw[e];rfl⟩;refine PD 19 ?_;refine DN (ac J3 (CN (qx J2 (ab λ_ J5=>D1 0 bh ?_))));refine PD 0 ?_;refine PD 1 ?_;refine LY 2 dD aZ ag ?_;refine PD 3 ?_;refine ta 4 rfl (aY (r:=off) rfl Iq rfl s7 rfl rfl) ?_;refine IY 5 (off+who.toNat*174) GE aZ ?_;refine AL 6 ?_;refine bJ (vs:=ints x.flat) (i:=1) (aa rfl) rfl rfl rfl rfl rfl (by rw[(ag x)];exact aZ) (bw _) rfl rfl (by have h0:=(xa B);have h2:=Arnd.le hA B;have h1:=(ag x);omega) (Arnd.wr hA (x:=B) (x':=(BookT.mk (B.rows.set who.toNat x (by omega)))) (j:=who.toNat*174) (by omega) (LC (xa _) (ag _)) (BookT.wr_rows_ B (who.toNat*174) (by omega) (by have h1:=(ag x);omega) (tG dr B.rows (i:=who.toNat) 0 (by omega) (by omega) (by have h1:=(ag x);omega) (cn ((ag (B.rows[who.toNat]'(by omega))).trans (ag x).symm))))) rfl (ap (E1 0 (DN (ac J5 (sr λ_ J6=>PS ?_)))));refine nx J6 (ai (WK [1] (au rfl rfl ?_)));have e:fy B who x=(zp B who x,true):=by rw[fy,if_pos (by simp only[av,decide_eq_true_iff,hrow];exact⟨⟨h8,h12⟩,by omega⟩)]
 exact⟨by rw[e],by rw[e,zp,dif_pos h8];rfl⟩;refine ap (E2 0 1 (PD 6 ?_));refine PD 7 ?_;refine PD 8 ?_;refine NT 9 ?_;refine NT 10 ?_;refine NT 11 ?_;refine NT 12 ?_;refine NT 13 ?_;refine NT 14 ?_;refine NT 15 ?_;refine NT 16 ?_;refine NT 17 ?_;refine NT 18 ?_;refine PD 19 ?_;refine DN (ac J3 (CY (sr λ_ J7=>PS ?_)));refine nx J7 (ai (ae (WK [1] (au rfl rfl ?_))));have e:fy B who x=(B,false):=by rw[fy,if_neg (λh=>by simp only[av,decide_eq_true_iff]at h;rw[h12]at h;exact absurd h.1.2 (by decide))]
 exact⟨by rw[e],by rw[e];rfl⟩;refine ap (E2 0 1 (PD 2 ?_));refine PD 3 ?_;refine NT 4 ?_;refine NT 5 ?_;refine NT 6 ?_;refine PD 7 ?_;refine PD 8 ?_;refine NT 9 ?_;refine NT 10 ?_;refine NT 11 ?_;refine NT 12 ?_;refine NT 13 ?_;refine NT 14 ?_;refine NT 15 ?_;refine NT 16 ?_;refine NT 17 ?_;refine NT 18 ?_;refine PD 19 ?_;refine DN (ac J3 (CY (sr λ_ J8=>PS ?_)));refine nx J8 (ai (ae (WK [1] (au rfl rfl ?_))));have e:fy B who x=(B,false):=by rw[fy,if_neg (λh=>by simp only[av,decide_eq_true_iff]at h;rw[h8]at h;exact absurd h.1.1 (by decide))]
 exact⟨by rw[e],by rw[e];rfl⟩
theorem ny(b off T:Nat)(cs:BookT→List Value)(hA:Arnd cs (λx=>ints x.flat) off)(B:BookT)(of' key:Int):
 DT 74 #[(.pointer (some ⟨b,off,none⟩)),(.int .i64 (of')),(.int .i64 (key))] T0 [ah b (cs B) T] (RI (.agg (ints (cV B of' key).flat).toArray) [ah b (cs B) T]):=by
 refine BD 35 Tryz.func74 rfl rfl rfl λw0 F hF=>sr λ_ J1=>XZ IB (ints CellT.zero.flat) λb6=>?_
 refine nx J1 (sr λ_ J2=>XZ IB (ints CellT.zero.flat) λb7=>?_);refine nx J2 (sr λ_ J3=>PS ?_);refine nx J3 (ab λ_ J4=>sr λ_ J5=>PS ?_);refine nx J5 (aq ?_)
 refine bp (α:=(Nat)×(CellT)×(Int)) (λ⟨k,c,n⟩=>k≤5∧(c,n)=wS B of' key k) (λ⟨k,c,n⟩=>[(0,(.pointer (some ⟨b,off,none⟩))),(1,(.int .i64 (of'))),(2,(.int .i64 (key))),(6,(.pointer (some ⟨b6,0,none⟩))),(7,(.pointer (some ⟨b7,0,none⟩))),(8,(.int .i64 (n))),(12,(.int .i64 (((k:Nat):Int))))]) (λ⟨k,c,n⟩=>[ah b7 (ints c.flat) 56,ah b6 (ints CellT.zero.flat) 56,ah b (cs B) T]) (λ⟨k,c,n⟩=>5-k) (0,CellT.zero, -1)
  ⟨aO _,rfl⟩ SB
  (λ_ s=>s) (λ⟨k,c,n⟩ hinv=>?_)
 obtain⟨hk,hc⟩:=hinv;refine sr λ_ J6=>PS ?_
 refine an ?_ ?_<;>intro h13;refine nx J6 (ab λ_ J7=>CY (qx J7 (ab λ_ J8=>aq (sr λ_ J9=>P2 ?_))));refine nx J9 (sr λ_ J10=>P3 ?_);refine tp (aY (r:=off) rfl Iq rfl s7 rfl rfl) ?_;refine IX (off+k*174) GE aZ ?_;refine tp (aN (vs:=ints (B.rows[k]'(by omega)).flat) rfl dD rfl aZ rfl (RO 2) (ag (B.rows[k]'(by omega))) (Np hA (j:=k*174) (by omega) (LB (xa _)) (Nl B (k*174) (by omega) (by omega) (km dr B.rows (i:=k) 0 (by omega) (by omega) (by decide) (whole (ag (B.rows[k]'(by omega)))))))) ?_;refine P3 ?_;refine CE ML (zk (B.rows[k]'(by omega)) ((k:Nat):Int) of' key) ID ?_;refine P3 ?_;refine XZ IB (ints CellT.zero.flat) λb10=>?_
 refine SW 0 fw bo ?_;refine PS ?_;refine nx J10 (sr λ_ J11=>P3 ?_);refine an ?_ ?_<;>intro h30;refine nx J11 (CY (ad (LW 0 mC fw bo ?_)));refine PS ?_;refine SW 1 fw bo ?_;refine PS ?_;refine ap (af (ac J8 (ad (AD ?_))));refine PS ?_;refine ap ?_
 exact aI ((k+1,(jV (B.rows[k]'(by omega)) ((k:Nat):Int) of' key).1,(jV (B.rows[k]'(by omega)) ((k:Nat):Int) of' key).2):(Nat)×(CellT)×(Int)) ⟨by omega,by rw[ut,←hc,sK,wT B (by omega)];simp[h30]⟩ (by show 5- (k+1)<5-k;omega)
  SB
  (λ_ s=>ak [1,1,1] rfl s)
 refine nx J11 (CN (aR (af (ac J8 (ad (AD ?_))))));refine PS ?_;refine ap ?_
 exact aI ((k+1,c,n):(Nat)×(CellT)×(Int)) ⟨by omega,by rw[ut,←hc,sK,wT B (by omega)];simp[h30]⟩ (by show 5- (k+1)<5-k;omega)
  SB
  (λ_ s=>ak [1,1,1] rfl s)
 refine nx J6 (ab λ_ J12=>CN (aW (az (az (bm (ac J4 (sr λ_ J13=>LW 0 mC fw bo ?_)))))));refine SW 1 fw bo ?_;refine nx J13 (ai (RC 1 [2] mC fw (bo _) ?_));obtain rfl:k=5:=by omega
 exact⟨by rw[cV,←hc],rfl⟩
theorem pT(b off T:Nat)(cs:BookT→List Value)(hA:Arnd cs (λx=>ints x.flat) off)(B:BookT)(key:Int):
 DT 39 #[(.pointer (some ⟨b,off,none⟩)),(.int .i64 (key))] T0 [ah b (cs B) T] (RI (.int .i64 (mB B key)) [ah b (cs B) T]):=by
 refine BD 24 Tryz.func39 rfl rfl rfl λw0 F hF=>sr λ_ J1=>PS ?_
 refine nx J1 (sr λ_ J2=>PS ?_);refine nx J2 (ab λ_ J3=>sr λ_ J4=>PS ?_);refine nx J4 (aq ?_)
 refine bp (α:=(Nat)×(Int)) (λ⟨k,n⟩=>k≤5∧n=rH B key k) (λ⟨k,n⟩=>[(0,(.pointer (some ⟨b,off,none⟩))),(1,(.int .i64 (key))),(4,(.int .i64 0)),(5,(.int .i64 (n))),(8,(.int .i64 (((k:Nat):Int))))]) (λ⟨k,n⟩=>[ah b (cs B) T]) (λ⟨k,n⟩=>5-k) (0,0)
  ⟨aO _,rfl⟩ SB
  (λ_ s=>s) (λ⟨k,n⟩ hinv=>?_)
 obtain⟨hk,hc⟩:=hinv;refine sr λ_ J5=>PS ?_
 refine an ?_ ?_<;>intro h9;refine nx J5 (ab λ_ J6=>CY (qx J6 (ab λ_ J7=>aq (sr λ_ J8=>P2 ?_))));refine nx J8 (sr λ_ J9=>P3 ?_);refine CE KP (ny b off T cs hA B ((k:Nat):Int) key) ID ?_;refine XZ IB (ints CellT.zero.flat) λb7=>?_
 refine SW 0 fw bo ?_;refine nx J9 (ad (PS ?_));refine FA 0 mC aQ ?_;refine LT 0 Y3 (.int .i64 ((cV B ((k:Nat):Int) key).inn)) ?_ (hc:=by exact rq _ rfl);refine FA 1 mC aQ ?_;refine LT 0 Y3 (.int .i64 ((cV B ((k:Nat):Int) key).out)) ?_ (hc:=by exact rm _ rfl);refine tp (iP (r:=(fP (((cV B ((k:Nat):Int) key).inn)- ((cV B ((k:Nat):Int) key).out)))) rfl rfl rfl rfl) ?_;refine tp (ci (r:=(fP (n+(fP (((cV B ((k:Nat):Int) key).inn)- ((cV B ((k:Nat):Int) key).out)))))) rfl rfl rfl rfl) ?_;refine PS ?_;refine ap (af (ac J7 (ad (AD ?_))));refine PS ?_;refine ap ?_
 exact aI ((k+1,(fP (n+(fP (((cV B ((k:Nat):Int) key).inn)- ((cV B ((k:Nat):Int) key).out)))))):(Nat)×(Int)) ⟨by omega,by rw[y2,←hc]⟩ (by show 5- (k+1)<5-k;omega)
  SB
  (λ_ s=>ak [1] rfl s)
 refine nx J5 (ab λ_ J10=>CN (aW (az (az (bm (ac J3 (sr λ_ J11=>P2 ?_)))))));refine nx J11 (ai (WK [0] (au rfl rfl ?_)));obtain rfl:k=5:=by omega
 exact⟨by rw[hc];rfl,rfl⟩
theorem oT(b off T:Nat)(cs:BookT→List Value)(hA:Arnd cs (λx=>ints x.flat) off)(B:BookT)(who key:Int):
    DT 73 #[(.pointer (some ⟨b,off,none⟩)),(.int .i64 (who)),(.int .i64 (key))] T0 [ah b (cs B) T] (RI (.int .i64 (oJ B who key)) [ah b (cs B) T]):=by
 refine BD 71 Tryz.func73 rfl rfl rfl λw0 F hF=>sr λ_ J1=>PS ?_
 refine nx J1 (ab λ_ J2=>sr λ_ J3=>PS ?_);refine CE KN (kY who) ID ?_;refine aX ?_ ?_<;>intro h14;have hm:0≤who∧who<5:=of_decide_eq_true h14;refine PS ?_;refine nx J3 (CN (qx J2 (sr λ_ J4=>XZ Lx (ints ((#v[CellT.zero,CellT.zero,CellT.zero,CellT.zero,CellT.zero]).toList.flatMap CellT.flat)) λb7=>?_)));refine nx J4 (ab λ_ J5=>sr λ_ J6=>PS ?_);refine nx J6 (aq ?_)
 refine bp (α:=(Nat)×(Vector CellT 5)) (λ⟨k,C⟩=>k≤5∧∀(j:Nat) (h:j<5),j<k→C[j]=cV B j key) (λ⟨k,C⟩=>[(0,(.pointer (some ⟨b,off,none⟩))),(1,(.int .i64 (who))),(2,(.int .i64 (key))),(6,(.int .i64 0)),(7,(.pointer (some ⟨b7,0,none⟩))),(16,(.int .i64 (((k:Nat):Int))))]) (λ⟨k,C⟩=>[ah b7 (ints (C.toList.flatMap CellT.flat)) 132,ah b (cs B) T]) (λ⟨k,C⟩=>5-k) (0, #v[CellT.zero,CellT.zero,CellT.zero,CellT.zero,CellT.zero])
     ⟨aO _,λj _ h=>absurd h (by omega)⟩ SB
     (λ_ s=>ak [0,0] rfl s) (λ⟨k,C⟩ hinv=>?_)
 obtain⟨hk,hC⟩:=hinv;refine sr λ_ J7=>PS ?_
 refine an ?_ ?_<;>intro h17;refine nx J7 (ab λ_ J8=>CY (qx J8 (ab λ_ J9=>aq (sr λ_ J10=>P2 ?_))));refine nx J10 (ad (P4 ?_));refine CE KP (ny b off T cs hA B ((k:Nat):Int) key) (SM [1]) ?_;refine IX (k*7) xD fw ?_;refine bJ (vs:=ints (cV B ((k:Nat):Int) key).flat) (i:=1) (aa rfl) rfl rfl rfl rfl rfl (by rw[(bo (cV B ((k:Nat):Int) key))];exact fw) (bw _) rfl rfl (by have h0:=(IL C);have h1:=(bo (cV B ((k:Nat):Int) key));omega) (tG bv C (i:=k) 0 (by omega) (by omega) (by have h1:=(bo (cV B ((k:Nat):Int) key));omega) (cn ((bo (C[k]'(by omega))).trans (bo (cV B ((k:Nat):Int) key)).symm))) rfl (ap (af (ac J9 (ad (AD ?_)))));refine PS ?_;refine ap ?_
 exact aI ((k+1,(C.set k (cV B ((k:Nat):Int) key) (by omega))):(Nat)×(Vector CellT 5)) ⟨by omega,λj h hj=>by
        rw[Vector.getElem_set];split
        · subst_vars;rfl
        · exact hC j h (by omega)⟩ (by show 5- (k+1)<5-k;omega)
   SB
   (λ_ s=>ak [1,0] rfl s)
 refine nx J7 (ab λ_ J11=>CN (aW (az (az (bm (ac J5 (sr λ_ J12=>PS ?_)))))));refine nx J12 (ab λ_ J13=>sr λ_ J14=>P3 ?_);refine tp (aY (r:=off) rfl Iq rfl s7 rfl rfl) ?_;refine IX (off+who.toNat*174) GE aZ ?_;refine tp (aN (vs:=ints (B.rows[who.toNat]'(by omega)).flat) rfl dD rfl aZ rfl (RO 1) (ag (B.rows[who.toNat]'(by omega))) (Np hA (j:=who.toNat*174) (by omega) (LB (xa _)) (Nl B (who.toNat*174) (by omega) (by omega) (km dr B.rows (i:=who.toNat) 0 (by omega) (by omega) (by decide) (whole (ag (B.rows[who.toNat]'(by omega)))))))) ?_;refine PS ?_;have hbr:B.rows[who.toNat]'(by omega)=cw B who:=by rw[cw,dif_pos h14]
 rw[hbr];refine CR MM (A5 (cw B who) who) ID λvR HR hR=>?_
 obtain⟨_,rfl,rfl⟩:=hR;revert vR;intro ul1;refine ib 0 rfl rfl (λhlul1 houl1=>tp (dF rfl j9 rfl hlul1) ?_);refine PS ?_;refine nx J14 (aq ?_)
 refine bp (α:=(Nat)×(Int)) (λ⟨i,r⟩=>i≤(gg (cw B who) who).length∧r=((gg (cw B who) who).take i).foldl (ou B key) 0) (λ⟨i,r⟩=>[(0,(.pointer (some ⟨b,off,none⟩))),(6,(.int .i64 0)),(7,(.pointer (some ⟨b7,0,none⟩))),(9,(.int .i64 (r))),(33,ul1),(34,(.int .i64 ((((gg (cw B who) who).length:Nat):Int)))),(35,(.int .i64 (((i:Nat):Int))))]) (λ⟨i,r⟩=>[own ul1 ((gg (cw B who) who).length) (ints (gg (cw B who) who)) 3 1,ah b7 (ints (C.toList.flatMap CellT.flat)) 132,ah b (cs B) T]) (λ⟨i,r⟩=>(gg (cw B who) who).length-i) (0,0)
     ⟨aO _,rfl⟩ SB
     (λ_ s=>ak [0,0,0] rfl s) (λ⟨i,r⟩ hinv=>?_)
 obtain⟨hi,hr⟩:=hinv;have hE: ∀(j:Nat) (h:j<5),C[j]=cV B j key:=λj h=>hC j h (by omega)
 refine sr λ_ J15=>PS ?_
 refine an ?_ ?_<;>intro h36;refine nx J15 (ab λ_ J16=>CY (qx J16 (ab λ_ J17=>aq (sr λ_ J18=>jO 0 rfl rfl (by omega) (λga capa hva hcapa=>?_)))));obtain⟨q,hq,hq5⟩: ∃q:Nat,(gg (cw B who) who)[i]=((q:Nat):Int)∧q<5:=by have:=C5 (cw B who) who _ (dW (show i< (gg (cw B who) who).length by omega));exact⟨(gg (cw B who) who)[i].toNat,by omega,by omega⟩
 have hE2:C[q]=cV B (gg (cw B who) who)[i] key:=by rw[hE q hq5,hq]
 refine tp (bT (r:=i) hva rfl j9 aQ rfl rfl (by omega) (by omega) (by omega)) ?_;refine tp (c7 (v:=(.int .i64 (((q:Nat):Int)))) rfl Y3 rfl rfl (fZ 0 rfl hva rfl) (by rw[←hq];simp[ints,show i< (gg (cw B who) who).length by omega])) ?_;refine PS ?_;refine nx J18 (ab λ_ J19=>D1 1 bh ?_);refine PD 0 ?_;refine PD 1 ?_;refine IY 2 (q*7) xD fw ?_;refine ta 3 rfl (aY (r:=q*7) rfl mC rfl aQ rfl rfl) ?_;refine LX 4 Y3 (.int .i64 ((C[q]'(by omega)).inn)) ?_ (hc:=by exact nE bv C (i:=q) 0 (by omega) (by omega) (by decide) (rq _ rfl));refine PD 5 ?_;refine IY 6 (q*7) xD fw ?_;refine ta 7 rfl (aY (r:=q*7+1) rfl mC rfl aQ rfl rfl) ?_;refine LX 8 Y3 (.int .i64 ((C[q]'(by omega)).out)) ?_ (hc:=by exact nE bv C (i:=q) 1 (by omega) (by omega) (by decide) (rm _ rfl));refine ta 9 rfl (iP (r:=(fP (((C[q]'(by omega)).inn)- ((C[q]'(by omega)).out)))) rfl rfl rfl rfl) ?_;refine ta 10 rfl (ci (r:=(fP (r+(fP (((C[q]'(by omega)).inn)- ((C[q]'(by omega)).out)))))) rfl rfl rfl rfl) ?_;refine PD 11 ?_;refine DN (ac J19 (sr λ_ J20=>PS ?_));refine nx J20 (aq ?_)
 refine bp (α:=(Nat)×(Int)) (λ⟨o,r3⟩=>o≤5∧r3=pE B key (gg (cw B who) who)[i] (fP (r+fP (C[q].inn-C[q].out))) o) (λ⟨o,r3⟩=>[(0,(.pointer (some ⟨b,off,none⟩))),(6,(.int .i64 0)),(7,(.pointer (some ⟨b7,0,none⟩))),(9,(.int .i64 (r3))),(11,(.int .i64 (((q:Nat):Int)))),(33,ul1),(34,(.int .i64 ((((gg (cw B who) who).length:Nat):Int)))),(35,(.int .i64 (((i:Nat):Int)))),(50,(.int .i64 (((o:Nat):Int))))]) (λ⟨o,r3⟩=>[own ul1 ((gg (cw B who) who).length) (ints (gg (cw B who) who)) 3 1,ah b7 (ints (C.toList.flatMap CellT.flat)) 132,ah b (cs B) T]) (λ⟨o,r3⟩=>5-o) (0,(fP (r+(fP (((C[q]'(by omega)).inn)- ((C[q]'(by omega)).out))))))
     ⟨aO _,rfl⟩ SB
     (λ_ s=>ak [0,0,0] rfl s) (λ⟨o,r3⟩ hinv=>?_)
 obtain⟨ho,hr3⟩:=hinv;refine sr λ_ J21=>PS ?_
 refine an ?_ ?_<;>intro h51;refine nx J21 (ab λ_ J22=>CY (qx J22 (ab λ_ J23=>aq (sr λ_ J24=>P2 ?_))));refine nx J24 (D1 1 bh ?_);refine PD 0 ?_;refine PD 1 ?_;refine PD 2 ?_;refine IY 3 (o*7) xD fw ?_;refine ta 4 rfl (aY (r:=o*7+2) rfl mC rfl eV rfl rfl) ?_;refine IY 5 (o*7+2+q) jC aQ ?_;refine LX 6 Y3 (.int .i64 ((((C[o]'(by omega)).given)[q]'(by omega)))) ?_ (hc:=by exact nE bv C (i:=o) (2+q) (by omega) (by omega) (by omega) (Nj (C[o]'(by omega)) q (by omega) (by omega) (ka ((C[o]'(by omega)).given) (by omega))));refine PD 7 ?_;refine PD 8 ?_;refine IY 9 (q*7) xD fw ?_;refine ta 10 rfl (aY (r:=q*7+2) rfl mC rfl eV rfl rfl) ?_;refine IY 11 (q*7+2+o) jC aQ ?_;refine LX 12 Y3 (.int .i64 ((((C[q]'(by omega)).given)[o]'(by omega)))) ?_ (hc:=by exact nE bv C (i:=q) (2+o) (by omega) (by omega) (by omega) (Nj (C[q]'(by omega)) o (by omega) (by omega) (ka ((C[q]'(by omega)).given) (by omega))));refine ta 13 rfl (iP (r:=(fP ((((C[o]'(by omega)).given)[q]'(by omega))- (((C[q]'(by omega)).given)[o]'(by omega))))) rfl rfl rfl rfl) ?_;refine ta 14 rfl (ci (r:=(fP (r3+(fP ((((C[o]'(by omega)).given)[q]'(by omega))- (((C[q]'(by omega)).given)[o]'(by omega))))))) rfl rfl rfl rfl) ?_;refine PD 15 ?_;refine DN (af (ac J23 (ad (AD ?_))));refine PS ?_;refine ap ?_
 exact aI ((o+1,(fP (r3+(fP ((((C[o]'(by omega)).given)[q]'(by omega))- (((C[q]'(by omega)).given)[o]'(by omega))))))):(Nat)×(Int)) ⟨by omega,by rw[xi,←hr3,wy _ (by omega),hq,wy _ hq5,←hE o (by omega),←hE q hq5]⟩ (by show 5- (o+1)<5-o;omega)
   SB
   (λ_ s=>ak [0,0,0] rfl s)
 refine nx J21 (ab λ_ J25=>CN (aW (az (az (bm (af (ac J17 (ad (AD ?_)))))))));refine PS ?_;refine ap ?_
 exact aI ((i+1,r3):(Nat)×(Int)) ⟨by omega,by
          have h5:o=5:=by omega
          rw[co (by omega),eT,←hr];show r3=ou B key r _
          rw[hr3,h5,ou,←hE2]⟩ (by show(gg (cw B who) who).length- (i+1)< (gg (cw B who) who).length-i;omega)
   SB
   (λ_ s=>ak [0,0,0] rfl s)
 refine nx J15 (ab λ_ J26=>CN (aW (az (az (bm (ac J13 (sr λ_ J27=>P2 ?_)))))));refine nx J27 (ai (WK [2] (au rfl rfl ?_)));obtain rfl:i=(gg (cw B who) who).length:=by omega
 exact⟨by rw[oJ,if_pos h14,hr,ic],rfl⟩;refine PS ?_;refine nx J3 (CY (sr λ_ J28=>PS ?_));refine nx J28 (ai (ae (WK [0] (au rfl rfl ?_))));exact⟨by rw[oJ,if_neg (by simp[h14])],rfl⟩
theorem lA(b off T:Nat)(cs:MirT→List Value)(hA:Arnd cs MirT.cells off)(M:MirT)(who:Int):
 DT 77 #[(.pointer (some ⟨b,off,none⟩)),(.int .i64 (who))] T0 [ah b (cs M) T] (RI (.agg (ints (da M who).flat).toArray) [ah b (cs M) T]):=by
 refine BD 15 Tryz.func77 rfl rfl rfl λw0 F hF=>sr λ_ J1=>XZ uz (ints RowT.zero.flat) λb4=>?_
 refine nx J1 (ab λ_ J2=>sr λ_ J3=>PS ?_);refine CE ED (hO who) ID ?_;refine aX ?_ ?_<;>intro h6;have hm:0≤who∧who<5:=of_decide_eq_true h6;refine PS ?_;refine nx J3 (CN (qx J2 (sr λ_ J4=>P3 ?_)));refine tp (aY (r:=off) rfl Ea rfl s7 rfl rfl) ?_;refine IX (off+who.toNat*174) GE aZ ?_;refine tp (aN (vs:=ints (M.rows[who.toNat]'(by omega)).flat) rfl dD rfl aZ rfl (RO 1) (ag (M.rows[who.toNat]'(by omega))) (Np hA (j:=who.toNat*174) (by omega) (LB (pZ _)) (MirT.sub_rows M (who.toNat*174) (by omega) (by omega) (km dr M.rows (i:=who.toNat) 0 (by omega) (by omega) (by decide) (whole (ag (M.rows[who.toNat]'(by omega)))))))) ?_;refine SW 0 aZ ag ?_;refine nx J4 (ai (RC 0 [1] dD aZ (ag _) ?_));exact⟨by rw[da,dif_pos h6],rfl⟩;refine PS ?_;refine nx J3 (CY (sr λ_ J5=>BV ((ints RowT.zero.flat).toArray) ?_));refine SW 0 aZ ag ?_;refine nx J5 (ai (ae (RC 0 [1] dD aZ (ag _) ?_)));exact⟨by rw[da,dif_neg (by simp[h6])],rfl⟩
theorem mQ(b off T:Nat)(cs:MirT→List Value)(hA:Arnd cs MirT.cells off)(M:MirT)(who:Int):
 DT 78 #[(.pointer (some ⟨b,off,none⟩)),(.int .i64 (who))] T0 [ah b (cs M) T] (RI (.bool (fe M who)) [ah b (cs M) T]):=by
 refine BD 15 Tryz.func78 rfl rfl rfl λw0 F hF=>sr λ_ J1=>PS ?_
 refine nx J1 (sr λ_ J2=>PS ?_);refine CE ED (hO who) ID ?_;refine aX ?_ ?_<;>intro h6;have hm:0≤who∧who<5:=of_decide_eq_true h6;refine P4 ?_;refine tq (aY (r:=off+870) rfl Ea rfl Kz rfl rfl) ?_;refine IX (off+870+who.toNat) Tryz.underlying96 kM ?_;refine LT 0 Y4 (.bool ((M.sealed[who.toNat]'(by omega)))) ?_ (hc:=by exact Arnd.at hA (j:=870+who.toNat) (by omega) (LB (pZ _)) (MirT.pt_sealed M (who.toNat) (by omega) (by omega) (JG M.sealed (by omega))));refine P2 ?_;refine nx J2 (ai (WK [0] (au rfl rfl ?_)));exact⟨by simp[fe, *],rfl⟩;refine PS ?_
 iterate 6 refine UF ?_
 refine P2 ?_;refine nx J2 (ai (WK [0] (au rfl rfl ?_)));exact⟨by simp[fe, *],rfl⟩
theorem qm(b off T:Nat)(cs:MirT→List Value)(hA:Arnd cs MirT.cells off)(M:MirT)(who:Int)(x:RowT)(hx:WF x.flat):
 DT 160 #[(.pointer (some ⟨b,off,none⟩)),(.int .i64 (who)),(.agg (ints x.flat).toArray)] T0 [ah b (cs M) T] (RI (.bool (ly M who x)) [ah b (cs M) T]):=by
 refine BD 34 Tryz.func160 rfl rfl rfl λw0 F hF=>sr λ_ J1=>XY (ints x.flat) λb5=>?_
 refine PS ?_;refine nx J1 (ab λ_ J2=>D2 1 0 bh ?_);refine PD 0 ?_;refine AL 1 ?_;refine CE ED (hO who) ID ?_;refine aX ?_ ?_<;>intro h8;have hm:0≤who∧who<5:=of_decide_eq_true h8;refine EN (PD 2 ?_);refine PD 3 ?_;refine PD 4 ?_;refine PD 5 ?_;refine tb 6 rfl (aY (r:=off+870) rfl Ea rfl Kz rfl rfl) ?_;refine IY 7 (off+870+who.toNat) Tryz.underlying96 kM ?_;refine LX 8 Y4 (.bool ((M.sealed[who.toNat]'(by omega)))) ?_ (hc:=by exact Arnd.at hA (j:=870+who.toNat) (by omega) (LB (pZ _)) (MirT.pt_sealed M (who.toNat) (by omega) (by omega) (JG M.sealed (by omega))));refine n7 ?_ ?_<;>intro h15;refine PD 9 ?_;refine PD 10 ?_;refine PD 11 ?_;refine NT 12 ?_;refine NT 13 ?_;refine PD 14 ?_;refine PD 15 ?_;refine NT 16 ?_;refine NT 17 ?_;refine NT 18 ?_;refine NT 19 ?_;refine NT 20 ?_;refine NT 21 ?_;refine NT 22 ?_;refine NT 23 ?_;refine NT 24 ?_;refine NT 25 ?_;refine PD 26 ?_;refine PD 27 ?_;refine DN (ac J2 (ai (WK [1] (au rfl rfl ?_))));exact⟨by simp[ly,fe,da, *],rfl⟩;refine PD 9 ?_;refine PD 10 ?_;refine PD 11 ?_;refine LY 12 dD aZ ag ?_;refine AL 13 ?_;refine CE Bj (fW x hx) ID ?_;refine aX ?_ ?_<;>intro h20;refine EN (PD 14 ?_);refine PD 15 ?_;refine FD 16 0 dD aQ ?_;refine LR 17 Y3 (cC x rfl) ?_;refine PD 18 ?_;refine PD 19 ?_;refine PD 20 ?_;refine tb 21 rfl (aY (r:=off) rfl Ea rfl s7 rfl rfl) ?_;refine IY 22 (off+who.toNat*174) GE aZ ?_;refine tb 23 rfl (aY (r:=off+who.toNat*174) rfl dD rfl aQ rfl rfl) ?_
 refine LX 24 Y3 (.int .i64 ((M.rows[who.toNat]'(by omega)).version)) ?_ (hc:=by exact Arnd.at hA (j:=who.toNat*174) (by omega) (LB (pZ _)) (MirT.pt_rows M (who.toNat*174) (by omega) (by omega) (nE dr M.rows (i:=who.toNat) 0 (by omega) (by omega) (by decide) (cC _ rfl))));refine PD 25 ?_;refine PD 26 ?_;refine PD 27 ?_;refine DN (ac J2 (ai (WK [1] (au rfl rfl ?_))));exact⟨by simp[ly,fe,da, *],rfl⟩;refine EN (PD 14 ?_);refine PD 15 ?_;refine NT 16 ?_;refine NT 17 ?_;refine NT 18 ?_;refine NT 19 ?_;refine NT 20 ?_;refine NT 21 ?_;refine NT 22 ?_;refine NT 23 ?_;refine NT 24 ?_;refine NT 25 ?_;refine PD 26 ?_;refine PD 27 ?_;refine DN (ac J2 (ai (WK [1] (au rfl rfl ?_))));exact⟨by simp[ly,fe,da, *],rfl⟩;refine EN (PD 2 ?_);refine NT 3 ?_;refine NT 4 ?_;refine NT 5 ?_;refine NT 6 ?_;refine NT 7 ?_;refine NT 8 ?_;refine NT 9 ?_;refine PD 10 ?_;refine PD 11 ?_;refine NT 12 ?_;refine NT 13 ?_;refine PD 14 ?_;refine PD 15 ?_;refine NT 16 ?_;refine NT 17 ?_;refine NT 18 ?_;refine NT 19 ?_;refine NT 20 ?_;refine NT 21 ?_;refine NT 22 ?_;refine NT 23 ?_;refine NT 24 ?_;refine NT 25 ?_;refine PD 26 ?_;refine PD 27 ?_;refine DN (ac J2 (ai (WK [1] (au rfl rfl ?_))));exact⟨by simp[ly,fe,da, *],rfl⟩
theorem st(b off T:Nat)(cs:MirT→List Value)(hA:Arnd cs MirT.cells off)(M:MirT)(who:Int)(x:RowT)(hx:WF x.flat):
 DT 131 #[(.pointer (some ⟨b,off,none⟩)),(.int .i64 (who)),(.agg (ints x.flat).toArray)] T0 [ah b (cs M) T] (RI (.bool (ml M who x).2) [ah b (cs (ml M who x).1) T]):=by
 refine BD 18 Tryz.func131 rfl rfl rfl λw0 F hF=>sr λ_ J1=>XY (ints x.flat) λb5=>?_
 refine PS ?_;refine nx J1 (ab λ_ J2=>sr λ_ J3=>P2 ?_);refine LW 0 dD aZ ag ?_;refine CE JW (qm b off T cs hA M who x hx) (SM [1]) ?_;refine aX ?_ ?_<;>intro h10;have hm0:cI who=true:=by have:=h10;simp only[ly,av]at this;exact this.1.1.1
 have hm:0≤who∧who<5:=of_decide_eq_true hm0;refine PS ?_;refine nx J3 (CN (qx J2 (ab λ_ J4=>D1 1 bh ?_)));refine PD 0 ?_;refine PD 1 ?_;refine LY 2 dD aZ ag ?_;refine PD 3 ?_;refine ta 4 rfl (aY (r:=off) rfl Ea rfl s7 rfl rfl) ?_;refine IY 5 (off+who.toNat*174) GE aZ ?_;refine AL 6 ?_;refine bJ (vs:=ints x.flat) (i:=0) (aa rfl) rfl rfl rfl rfl rfl (by rw[(ag x)];exact aZ) (bw _) rfl rfl (by have h0:=(pZ M);have h2:=Arnd.le hA M;have h1:=(ag x);omega) (Arnd.wr hA (x:=M) (x':=(MirT.mk (M.rows.set who.toNat x (by omega)) M.sealed)) (j:=who.toNat*174) (by omega) (LC (pZ _) (ag _)) (MirT.wr_rows_ M (who.toNat*174) (by omega) (by have h1:=(ag x);omega) (tG dr M.rows (i:=who.toNat) 0 (by omega) (by omega) (by have h1:=(ag x);omega) (cn ((ag (M.rows[who.toNat]'(by omega))).trans (ag x).symm))))) rfl (ap (E1 1 (DN (ac J4 (sr λ_ J5=>PS ?_)))));refine nx J5 (ai (WK [0] (au rfl rfl ?_)));have e:ml M who x=(zG M who x,true):=by rw[ml,if_pos h10]
 exact⟨by rw[e],by rw[e,zG,dif_pos hm0];rfl⟩;refine PS ?_;refine nx J3 (CY (sr λ_ J6=>PS ?_));refine nx J6 (ai (ae (WK [0] (au rfl rfl ?_))));have e:ml M who x=(M,false):=by rw[ml,if_neg (by simp[h10])]
 exact⟨by rw[e],by rw[e];rfl⟩
theorem sq(b off T:Nat)(cs:MirT→List Value)(hA:Arnd cs MirT.cells off)(M:MirT)(who:Int):
 DT 132 #[(.pointer (some ⟨b,off,none⟩)),(.int .i64 (who))] T0 [ah b (cs M) T] (RI (.tuple #[.agg (ints (da M who).flat).toArray, .bool (cI who)]) [ah b (cs (nT M who)) T]):=by
 refine Leg.Does.body (vs:=[(.pointer (some ⟨b,off,none⟩)),(.int .i64 (who))]) (n:=21) Tryz.func132 rfl rfl rfl (λw0 F hF=>?_);refine sr λ_ J1=>?_
 refine lG (aa rfl) rfl rfl rfl uz (λb4=>?_);change TL _ _ _ _ _ _ _ _ _ [ah b4 (ints RowT.zero.flat) 60,ah b (cs M) T];refine pa ?_;refine nx J1 ?_;clear J1;refine ab λ_ J2=>?_
 refine sr λ_ J3=>?_
 refine mv ?_;refine gV (aa rfl) rfl rfl rfl ED rfl (hO who) (λ_ s=>s) (λ_ _ _=>trivial) (λvR HR hR=>?_);obtain⟨rfl,rfl⟩:=hR;refine aX (λh7=>?_) (λh7=>?_);have hm:0≤who∧who<5:=of_decide_eq_true h7;refine tp (n9 (r:=false) rfl rfl rfl) ?_;refine nx J3 ?_;clear J3;refine sO rfl ?_;refine aR ?_;refine ac J2 ?_;clear J2;refine sr λ_ J4=>?_
 refine mv ?_;refine mv ?_;refine tp (fX rfl rfl) ?_;refine tp (aY (r:=off+870) rfl Ea rfl Kz rfl rfl) ?_;refine tp (eL (r:=off+870+who.toNat) rfl Tryz.underlying96 kM rfl rfl (by omega) (by omega) (by omega)) ?_;refine bD (i:=1) (aa rfl) rfl rfl rfl rfl rfl kM rfl rfl (by have h0:=(pZ M);have h2:=Arnd.le hA M;omega) (Arnd.set hA (x:=M) (x':=(MirT.mk M.rows (M.sealed.set who.toNat true (by omega)))) (j:=870+who.toNat) (by omega) (by have h0:=(pZ M);omega) (MirT.st_sealed M (who.toNat) (by omega) (by omega) (LF M.sealed (by omega) _))) rfl ?_;refine nx J4 ?_;clear J4;refine sr λ_ J5=>?_
 refine mv ?_;refine mv ?_;refine tp (fX rfl rfl) ?_;refine tp (aY (r:=off) rfl Ea rfl s7 rfl rfl) ?_;refine tp (eL (r:=off+who.toNat*174) rfl GE aZ rfl rfl (by omega) (by omega) (by omega)) ?_;refine tp (aN (vs:=ints (M.rows[who.toNat]'(by omega)).flat) rfl dD rfl aZ rfl (dN 1 rfl rfl) (ag (M.rows[who.toNat]'(by omega))) (Np hA (j:=who.toNat*174) (by omega) (by have h0:=(pZ (MirT.mk M.rows (M.sealed.set who.toNat true (by omega))));omega) (MirT.sub_rows (MirT.mk M.rows (M.sealed.set who.toNat true (by omega))) (who.toNat*174) (by omega) (by omega) (km dr M.rows (i:=who.toNat) 0 (by omega) (by omega) (by decide) (whole (ag (M.rows[who.toNat]'(by omega)))))))) ?_;refine bJ (vs:=ints (M.rows[who.toNat]'(by omega)).flat) (i:=0) (aa rfl) rfl rfl rfl rfl rfl (by rw[(ag (M.rows[who.toNat]'(by omega)))];exact aZ) (bw _) rfl rfl (by have h0:=(ag RowT.zero);have h1:=(ag (M.rows[who.toNat]'(by omega)));omega) (cn ((ag RowT.zero).trans (ag (M.rows[who.toNat]'(by omega))).symm)) rfl ?_;refine pa ?_;refine nx J5 ?_;clear J5;refine ai ?_;refine lH (H':=[ah b (cs (MirT.mk M.rows (M.sealed.set who.toNat true (by omega)))) T]) rfl rfl rfl dD rfl aZ (dN 0 rfl rfl) (ag (M.rows[who.toNat]'(by omega))) (λ_ s=>ak [1] rfl s) ?_;exact⟨by simp[da, *],by simp[nT, *]⟩;refine tp (n9 (r:=true) rfl rfl rfl) ?_;refine nx J3 ?_;clear J3;refine iO rfl ?_;refine sr λ_ J6=>?_
 refine tp (jR (cells:=(ints RowT.zero.flat).toArray) rfl rfl (by as_aux_lemma=>kernel_rfl)) ?_;refine bJ (vs:=ints RowT.zero.flat) (i:=0) (aa rfl) rfl rfl rfl rfl rfl (by rw[(ag RowT.zero)];exact aZ) (bw _) rfl rfl (by have h0:=(ag RowT.zero);have h1:=(ag RowT.zero);omega) (cn ((ag RowT.zero).trans (ag RowT.zero).symm)) rfl ?_;refine pa ?_;refine nx J6 ?_;clear J6;refine ai ?_;refine ae ?_;clear J2;refine lH (H':=[ah b (cs M) T]) rfl rfl rfl dD rfl aZ (dN 0 rfl rfl) (ag RowT.zero) (λ_ s=>ak [1] rfl s) ?_;exact⟨by simp[da, *],by simp[nT, *]⟩
end Go.Proofs.YtjblgopghhgflaaGreat
end

section
namespace Api
open Go Leg Codec
def fa(k:Int):Bool:=decide (k=0∨k=2∨k=9)
def fj(k:Int):Bool:=decide (k=3∨k=6)
def cL:Ps (MsgT×Bool):=pb (eZ 10) λk=>
 if fa k then pb (eZ 5) λw=>pb rW λx=>pr (⟨k,w,x,0,0, .zero, .zero, .zero, .zero⟩,fL x)
 else if k=1 then pb mj λn=>pr (⟨k,0, .zero,n,0, .zero, .zero, .zero, .zero⟩,true)
 else if fj k then pb mj λn=>pb iH λb=>pr (⟨k,0, .zero,0,n,b, .zero, .zero, .zero⟩,true)
 else if k=4 then pb mj λn=>pb iH λb=>pb iH λd=>pb jX λc=>pr (⟨k,0, .zero,0,n,b,d,c, .zero⟩,true)
 else if k=5 then pb mj λn=>pb iH λb=>pb jX λc=>pr (⟨k,0, .zero,0,n,b, .zero,c, .zero⟩,true)
 else if k=7 then pb kN λv=>pr (⟨k,0, .zero,0,0, .zero, .zero, .zero,v⟩,ku v)
 else if k=8 then pb (eZ 5) λw=>pb kN λv=>pr (⟨k,w, .zero,0,0, .zero, .zero, .zero,v⟩,ku v)
 else pr (⟨k,0, .zero,0,0, .zero, .zero, .zero, .zero⟩,true)
def cZ:Ps (RecT×Bool):=pb (eZ 6) λk=>
 if k=0 then pb rW λx=>pr (⟨k,0,x,0, .zero, .zero, .zero⟩,fL x)
 else if k=1 then pb (eZ 5) λw=>pb rW λx=>pr (⟨k,w,x,0, .zero, .zero, .zero⟩,fL x)
 else if k=2 then pb (eZ 5) λw=>pr (⟨k,w, .zero,0, .zero, .zero, .zero⟩,true)
 else if k=3 then pb mj λn=>pb iH λb=>pr (⟨k,0, .zero,n,b, .zero, .zero⟩,true)
 else if k=4 then pb mj λn=>pb iH λb=>pb jX λc=>pr (⟨k,0, .zero,n,b,c, .zero⟩,true)
 else if k=5 then pb kN λv=>pr (⟨k,0, .zero,0, .zero, .zero,v⟩,ku v)
 else pr (⟨k,0, .zero,0, .zero, .zero, .zero⟩,true)
def jF(bs:List UInt8):MsgT×Int:=match cL bs with
 |some ((m,true),[])=>(m,0)
 |_=>(.zero,1)
def mn(bs:List UInt8):RecT×Int:=match cZ bs with
 |some ((m,true),[])=>(m,0)
 |_=>(.zero,1)
def dX(m:MsgT):List UInt8:=
 if fa m.kind then bf [m.kind,m.whose]++gD m.row
 else if m.kind=1 then bf [m.kind,m.version]
 else if fj m.kind then bf [m.kind,m.epoch]++bf m.ballot.flat
 else if m.kind=4 then bf [m.kind,m.epoch]++bf m.ballot.flat++bf m.had.flat++bf m.change.flat
 else if m.kind=5 then bf [m.kind,m.epoch]++bf m.ballot.flat++bf m.change.flat
 else if m.kind=7 then bf [m.kind]++bf m.view.flat
 else if m.kind=8 then bf [m.kind,m.whose]++bf m.view.flat
 else []
def gj(m:RecT):List UInt8:=
 if m.kind=0 then bf [m.kind]++gD m.row
 else if m.kind=1 then bf [m.kind,m.whose]++gD m.row
 else if m.kind=2 then bf [m.kind,m.whose]
 else if m.kind=3 then bf [m.kind,m.epoch]++bf m.ballot.flat
 else if m.kind=4 then bf [m.kind,m.epoch]++bf m.ballot.flat++bf m.change.flat
 else if m.kind=5 then bf [m.kind]++bf m.view.flat
 else []
theorem rF{v:ViewT}{bs r:List UInt8}(h:kN bs=some (v,r)):Rng v:=λi hi=>by
 have:=(sY h).1.2.2 i hi;exact⟨this.1,by omega⟩
theorem zi{x:RowT}{bs r:List UInt8}(h:rW bs=some (x,r)):WF x.flat:=(vH h).1.wf
def Nm(n:Int):Prop:=0≤n∧n<9223372036854775808
def OkB(b:BallotT):Prop:=Nm b.round∧0≤b.who∧b.who<5
def OkC(c:ChangeT):Prop:=(0≤c.kind∧c.kind<2)∧(0≤c.who∧c.who<5)∧(0≤c.heir∧c.heir<5)
def Nv(v:ViewT):Prop:=Nm v.epoch∧(0≤v.members∧v.members<32)∧∀(i:Nat) (h:i<5),0≤v.heirs[i]∧v.heirs[i]<6
theorem wU{b:BallotT}(h:OkB b)(r:List UInt8):iH (bf b.flat++r)=some (b,r):=by
 obtain⟨a,c⟩:=b;obtain⟨h1,h2,h3⟩:=h;replace h3:c<5:=h3;simp only[BallotT.flat,gS,ji,aL,be,iH];rw[aw (my h1.1 h1.2 _),aw (g9 (n:=c) h2 h3 (by omega) _)];rfl
theorem DY{c:ChangeT}(h:OkC c)(r:List UInt8):jX (bf c.flat++r)=some (c,r):=by
 obtain⟨a,b,d⟩:=c;obtain⟨⟨h1,h2⟩,⟨h3,h4⟩,h5,h6⟩:=h;simp only at h1 h2 h3 h4 h5 h6;simp only[ChangeT.flat,gS,ji,aL,be,jX];rw[aw (g9 h1 h2 (by omega) _),aw (g9 h3 h4 (by omega) _),aw (g9 h5 h6 (by omega) _)];rfl
theorem GR{v:ViewT}(h:Nv v)(r:List UInt8):kN (bf v.flat++r)=some (v,r):=by
 obtain⟨i,o,g⟩:=v;obtain⟨h1,⟨h2,h3⟩,h4⟩:=h;replace h2:0≤o:=h2;replace h3:o<32:=h3;revert h4;refine IM (p:=λg=>(∀(i_1:Nat) (h:i_1<5),0≤g[i_1]∧g[i_1]<6)→kN (bf (ViewT.flat ⟨i,o,g⟩)++r)=some (⟨i,o,g⟩,r)) (λa b c d e h4=>?_) g;have e0:=h4 0 (by omega);have e1:=h4 1 (by omega);have e2:=h4 2 (by omega);have e3:=h4 3 (by omega);have e4:=h4 4 (by omega);have s:=λn (h:0≤n∧n<6) r=>g9 (n:=n) (lim:=6) h.1 h.2 (by omega) r
 simp only[ViewT.flat,Vector.toList_mk,gS,ji,aL,be,kN];rw[aw (my h1.1 h1.2 _),aw (g9 h2 h3 (by omega) _),aw (s a e0 _),aw (s b e1 _),aw (s c e2 _),aw (s d e3 _),aw (s e e4 _)];rfl
structure OkM(m:MsgT):Prop where
 kind:0≤m.kind∧m.kind<10
 whose:0≤m.whose∧m.whose<5
 row:TameR m.row
 version:Nm m.version
 epoch:Nm m.epoch
 ballot:OkB m.ballot
 had:OkB m.had
 change:OkC m.change
 view:Nv m.view
theorem Lb(i:Nat)(hi:i<5):RowT.zero.heir[i]=0:=by match i,hi with|0,_|1,_|2,_|3,_|4,_=>rfl
theorem H9(k:Nat)(hk:k<4):RowT.zero.cells[k]=CellT.zero:=by match k,hk with|0,_|1,_|2,_|3,_=>rfl
theorem Dp(i:Nat)(hi:i<5):RowT.zero.left[i]=RowT.zero.cells:=by match i,hi with|0,_|1,_|2,_|3,_|4,_=>rfl
theorem tame_rzero:TameR RowT.zero:=⟨⟨by decide,by decide⟩,λk hk=>by rw[H9 k hk];exact s4,λi hi=>by rw[Lb i hi];decide,λi k hi hk=>by rw[show RowT.zero.left[i][k]=RowT.zero.cells[k]from by rw[Dp i hi],H9 k hk];exact s4,λi hi _=>by rw[Dp i hi,Dp 0 (by decide)]⟩
def vY(m:RecT):RecT:=
 if m.kind=0 then⟨m.kind,0,m.row,0, .zero, .zero, .zero⟩
 else if m.kind=1 then⟨m.kind,m.whose,m.row,0, .zero, .zero, .zero⟩
 else if m.kind=2 then⟨m.kind,m.whose, .zero,0, .zero, .zero, .zero⟩
 else if m.kind=3 then⟨m.kind,0, .zero,m.epoch,m.ballot, .zero, .zero⟩
 else if m.kind=4 then⟨m.kind,0, .zero,m.epoch,m.ballot,m.change, .zero⟩
 else⟨m.kind,0, .zero,0, .zero, .zero,m.view⟩
def vX(m:RecT):Bool:=if m.kind=0∨m.kind=1 then fL m.row else if m.kind=5 then ku m.view else true
structure OkRc(m:RecT):Prop where
 kind:0≤m.kind∧m.kind<6
 whose:0≤m.whose∧m.whose<5
 row:TameR m.row
 epoch:Nm m.epoch
 ballot:OkB m.ballot
 change:OkC m.change
 view:Nv m.view
theorem I1{m:RecT}(h:OkRc m)(r:List UInt8):cZ (gj m++r)=some ((vY m,vX m),r):=by
 have hk:=h.kind;have kk:=λr=>g9 hk.1 hk.2 (show m.kind<9223372036854775808 by omega) r
 have kw:=λr=>g9 h.whose.1 h.whose.2 (show m.whose<9223372036854775808 by have:=h.whose;omega) r
 have ke:=λr=>my h.epoch.1 h.epoch.2 r
 unfold cZ gj vY vX
 by_cases c0:m.kind=0
 · have q:m.kind=0∨m.kind=1:= .inl c0
   simp only[if_pos c0,if_pos q,gS,ji,aL,be];rw[aw (kk _)];simp only[if_pos c0];rw[aw (A4 h.row _)];rfl
 simp only[if_neg c0]
 by_cases c1:m.kind=1
 · have q:m.kind=0∨m.kind=1:= .inr c1
   simp only[if_pos c1,if_pos q,gS,ji,aL,be];rw[aw (kk _)];simp only[if_neg c0,if_pos c1];rw[aw (kw _),aw (A4 h.row _)];rfl
 have q: ¬(m.kind=0∨m.kind=1):=by omega
 simp only[if_neg c1,if_neg q]
 by_cases c2:m.kind=2
 · have q: ¬m.kind=5:=by omega
   simp only[if_pos c2,if_neg q,gS,ji,aL,be];rw[aw (kk _)];simp only[if_neg c0,if_neg c1,if_pos c2];rw[aw (kw _)];rfl
 simp only[if_neg c2]
 by_cases c3:m.kind=3
 · have q: ¬m.kind=5:=by omega
   simp only[if_pos c3,if_neg q,gS,ji,aL,be];rw[aw (kk _)];simp only[if_neg c0,if_neg c1,if_neg c2,if_pos c3];rw[aw (ke _),aw (wU h.ballot _)];rfl
 simp only[if_neg c3]
 by_cases c4:m.kind=4
 · have q: ¬m.kind=5:=by omega
   simp only[if_pos c4,if_neg q,gS,ji,aL,be];rw[aw (kk _)];simp only[if_neg c0,if_neg c1,if_neg c2,if_neg c3,if_pos c4];rw[aw (ke _),aw (wU h.ballot _),aw (DY h.change _)];rfl
 have c5:m.kind=5:=by omega
 simp only[if_neg c4,if_pos c5,gS,ji,aL,be];rw[aw (kk _)];simp only[if_neg c0,if_neg c1,if_neg c2,if_neg c3,if_neg c4,if_pos c5];rw[aw (GR h.view _)];rfl
theorem Ha{m:RecT}{g:Bool}{bs r:List UInt8}(h:cZ bs=some ((m,g),r)):bs=gj m++r∧vX m=g∧(0≤m.kind∧m.kind<6)∧(0≤m.whose∧m.whose<5)∧TameR m.row:=by
 obtain⟨k,r1,h1,h2⟩:=bG h;clear h;obtain⟨k1,rfl⟩:=de h1;have tz:=tame_rzero;have kz:(0:Int)≤0∧(0:Int)<5:=by omega
 by_cases c0:k=0
 · simp only[if_pos c0]at h2
   subst c0;obtain⟨x,r3,h5,h6⟩:=bG h2;obtain⟨k5,rfl⟩:=vH h5;obtain⟨e,rfl⟩:=hJ h6;injection e with e1 e2;subst e1;subst e2
   exact⟨by simp[gj,bf],by simp[vX],⟨k1.1,k1.2.1⟩,kz,k5⟩
 simp only[if_neg c0]at h2
 by_cases c1:k=1
 · simp only[if_pos c1]at h2
   subst c1;obtain⟨w,r2,h3,h4⟩:=bG h2;obtain⟨k3,rfl⟩:=de h3;obtain⟨x,r3,h5,h6⟩:=bG h4;obtain⟨k5,rfl⟩:=vH h5;obtain⟨e,rfl⟩:=hJ h6;injection e with e1 e2;subst e1;subst e2
   exact⟨by simp[gj,bf],by simp[vX],⟨k1.1,k1.2.1⟩,⟨k3.1,k3.2.1⟩,k5⟩
 simp only[if_neg c1]at h2
 by_cases c2:k=2
 · simp only[if_pos c2]at h2
   subst c2;obtain⟨w,r2,h3,h4⟩:=bG h2;obtain⟨k3,rfl⟩:=de h3;obtain⟨e,rfl⟩:=hJ h4;injection e with e1 e2;subst e1;subst e2
   exact⟨by simp[gj,bf],by simp[vX],⟨k1.1,k1.2.1⟩,⟨k3.1,k3.2.1⟩,tz⟩
 simp only[if_neg c2]at h2
 by_cases c3:k=3
 · simp only[if_pos c3]at h2
   subst c3;obtain⟨n,r2,h3,h4⟩:=bG h2;obtain⟨_,_,rfl⟩:=kU h3;obtain⟨b,r3,h5,h6⟩:=bG h4;obtain⟨_,rfl⟩:=pV h5;obtain⟨e,rfl⟩:=hJ h6;injection e with e1 e2;subst e1;subst e2
   exact⟨by simp[gj,bf],by simp[vX],⟨k1.1,k1.2.1⟩,kz,tz⟩
 simp only[if_neg c3]at h2
 by_cases c4:k=4
 · simp only[if_pos c4]at h2
   subst c4;obtain⟨n,r2,h3,h4⟩:=bG h2;obtain⟨_,_,rfl⟩:=kU h3;obtain⟨b,r3,h5,h6⟩:=bG h4;obtain⟨_,rfl⟩:=pV h5;obtain⟨c,r5,h9,h10⟩:=bG h6;obtain⟨_,rfl⟩:=ul h9;obtain⟨e,rfl⟩:=hJ h10;injection e with e1 e2;subst e1;subst e2
   exact⟨by simp[gj,bf],by simp[vX],⟨k1.1,k1.2.1⟩,kz,tz⟩
 simp only[if_neg c4]at h2;have c5:k=5:=by omega
 simp only[if_pos c5]at h2;subst c5;obtain⟨v,r3,h5,h6⟩:=bG h2;obtain⟨_,rfl⟩:=sY h5;obtain⟨e,rfl⟩:=hJ h6;injection e with e1 e2;subst e1;subst e2
 exact⟨by simp[gj,bf],by simp[vX],⟨k1.1,k1.2.1⟩,kz,tz⟩
theorem Rng.zeros{v:ViewT}(h:v.heirs= #v[0,0,0,0,0]):Rng v:=λi hi=>by
 have:v.heirs[i]=0:=by
  rw[show v.heirs[i]=(#v[0,0,0,0,0]:Vector Int 5)[i]from by rw[h]]
  match i,hi with|0,_|1,_|2,_|3,_|4,_=>rfl
 omega
theorem Rng.zero:Rng ViewT.zero:=Rng.zeros rfl
theorem Rng.first:Rng firstV:=Rng.zeros rfl
structure GoodV(v:ViewT):Prop where
 epoch:1≤v.epoch
 mem:1≤v.members∧v.members<32
 ok: ∀(i:Nat) (h:i<5),JN v v.heirs[i] i=true
 rng:Rng v
def vI(x:RepT):MsgT:= {MsgT.zero with kind:=0,whose:=x.id,row:=x.own}
def sh(id:Int)(x:RowT):MsgT:= {MsgT.zero with kind:=2,whose:=id,row:=x}
def Af(k w:Int):Bool:=decide (k.fdiv (2^min w.toNat IntKind.i64.bits)%2=0)
def pp(x:RepT):List SaidT:=((gI x.id).filter λw=>Af x.kept w).map λw=>⟨w,vI x⟩
end Api
namespace Api
open Go Leg Codec
def gR(x:RepT)(o:OpT):RowT×Int:=
 if o.kind=0 then pC x.own o.key o.n else if o.kind=1 then pD x.own o.key o.n else if o.kind=2 then(if o.to'≠x.id then mg x.own o.key o.n o.to' else(.zero,5))else(.zero,5)
def kc(x:RepT)(o:OpT):RowT×Int×Int:=
 if iK x.view x.id=false then(.zero,0,9)else if mR o.key=false then(.zero,0,5)else if o.kind=3 then(.zero,mB x.book o.key,0)else if x.busy then(.zero,0,8)
 else if(gR x o).2≠0 then(.zero,0,(gR x o).2)else if o.kind≠0∧oJ x.book x.id o.key<o.n then(.zero,0,7)else((gR x o).1,0,0)
def fF(y:RowT):RecT:= {RecT.zero with kind:=0,row:=y}
end Api
namespace Api
open Go Leg Codec
end Api
namespace Api
open Go Leg Codec
end Api
namespace Api
open Go Leg Codec
end Api
namespace Api
open Go Leg Codec
end Api
end

section
namespace Leg
open Go Go.ChangeShapes Go.WideShapes Codec Api
section
variable {P:Program} {W:World} {H:Type} {enc:TypeId×Value→H} {B0:Nat} {spare:Nat→Bool} {held:Bool}
theorem CC{t:TypeId}{fuel:Nat}{cs:List Value}{x:DataW H×List MemPlace}(ht:P.underlying t=some .bool)(h:DataW.trod enc P W B0 spare held fuel t cs=some x): ∃b,cs=[.bool b]:=by
 cases fuel with
 |zero=>simp[DataW.trod]at h
 |succ n=>
  unfold DataW.trod at h;rw[ht]at h;split at h<;>simp_all
theorem Fits.append{a b:List (Option IntKind)}{x y:List Lit}(h:Fits a x)(g:Fits b y):Fits (a++b) (x++y):=
 ⟨by rw[cS,cS,h.1,g.1],λl hl=>(eC.1 hl).elim (h.2 l) (g.2 l)⟩
theorem yz{d:Nat}(ih: ∀t ks,kP P d t=some ks→∀fuel cs x,DataW.trod enc P W B0 spare held fuel t cs=some x→∃ls,Fits ks ls∧cs=ls.map g8)(cs:List Value)(n:Nat):
 ∀(fs:List Field) (o:Nat) (ks:List (Option IntKind)),pN P (kP P d) fs o=some ks→cs.length=o+ks.length→
  (∀f∈fs,∃y,DataW.trod enc P W B0 spare held n f.type ((cs.drop f.offset).take (P.cellsOf f.type))=some y)→∃ls,Fits ks ls∧cs.drop o=ls.map g8
 | [],o,ks,h,hl,_=>by
  simp only[pN,Option.some.injEq]at h;subst h;exact⟨[],⟨rfl,λ_ h=>by cases h⟩,by rw[cF (by simpa using cE hl)];rfl⟩
 |f::fs,o,ks,h,hl,hf=>by
  simp only[pN]at h;split at h
  · rename_i c hc
    split at h
    · rename_i hh
      obtain⟨m,hm,rfl⟩:=Option.map_eq_some_iff.1 h;rw[aj]at hl;obtain⟨y,hy⟩:=hf f (by simp);rw[hh.1,hh.2]at hy;obtain⟨l1,f1,e1⟩:=ih f.type c hc n _ _ hy;obtain⟨l2,f2,e2⟩:=yz ih cs n fs (o+c.length) m hm (by omega) (λg hg=>hf g (by simp[hg]));refine⟨l1++l2,f1.append f2,?_⟩;rw[cS,←e1,←e2,←io];exact(eO _ _).symm
    · cases h
  · cases h
theorem flat_in: ∀(d:Nat) (t:TypeId) (ks:List (Option IntKind)),kP P d t=some ks→∀fuel cs x,DataW.trod enc P W B0 spare held fuel t cs=some x→∃ls,Fits ks ls∧cs=ls.map g8
 |0,_,_,h=>by simp[kP]at h
 |d+1,t,ks,h=>λfuel cs x hx=>by
  have ih:=flat_in d;simp only[kP]at h;split at h
  · rename_i q hu
    simp only[Option.some.injEq]at h;subst h;obtain⟨n,rfl,_,hw⟩:=DataW.trod_int hu hx;exact⟨[.int q n],⟨rfl,by simpa using hw⟩,rfl⟩
  · rename_i hu
    simp only[Option.some.injEq]at h;subst h;obtain⟨b,rfl⟩:=CC hu hx;exact⟨[.bool b],⟨rfl,by simp[Lit.wf]⟩,rfl⟩
  · rename_i n e hu
    split at h
    · rename_i c hc
      split at h
      · rename_i hh
        simp only[Option.some.injEq]at h;subst h;obtain⟨xs,m,_,_,hl,hxl,hxi⟩:=DataW.trod_array hu hx;rw[hh.2]at hl
        have each: ∀k,k≤n→∃ls,Fits (List.replicate k c).flatten ls∧cs.take (k*c.length)=ls.map g8:=by
         intro k
         induction k with
         |zero=>intro _;exact⟨[],⟨rfl,λ_ h=>by cases h⟩,by simp⟩
         |succ k ihk=>
          intro hk;obtain⟨l1,f1,e1⟩:=ihk (by omega);have hy:=hxi k (by omega);rw[List.getElem?_eq_getElem (by omega),hh.1]at hy;obtain⟨l2,f2,e2⟩:=ih e c hc m _ _ hy;refine⟨l1++l2,?_,?_⟩
          · rw[List.replicate_succ',List.flatten_append]
            simpa using f1.append f2
          · rw[cS,←e1,←e2,fg,Nat.one_mul,List.take_add]
        obtain⟨ls,f,e⟩:=each n (aK _);rw[aB (by omega)]at e;exact⟨ls,f,e⟩
      · cases h
    · cases h
  · rename_i fs hu
    split at h
    · rename_i m' hc
      split at h
      · rename_i hh
        simp only[Option.some.injEq]at h;subst h;obtain⟨xs,m,_,_,hl,hxl,hxi⟩:=DataW.trod_struct hu hx
        have:=yz (λt ks h=>ih t ks h) cs m fs.toList 0 _ hc (by rw[hl,hh.1,bl]) (λf hf=>by
         obtain⟨i,hi⟩:=List.getElem?_of_mem hf;have hi':fs[i]?=some f:=by simpa using hi
         have:=hxi i f hi';have hlt:=(Array.getElem?_eq_some_iff.1 hi').1;rw[List.getElem?_eq_getElem (by omega)]at this
         exact⟨_,this⟩)
        simpa using this
      · cases h
    · cases h
  · cases h
theorem fits_ints{c:Nat}{ls:List Lit}(h:Fits (List.replicate c (some .i64)) ls): ∃l,ls=m6 l∧l.length=c∧WF l:=by
 obtain⟨h1,h2⟩:=h
 have e: ∀x∈ls,∃n,x= .int .i64 n:=λx hx=>by
  have:yr x∈ls.map yr:=List.mem_map_of_mem hx;rw[h1,List.map_replicate]at this;have:=List.eq_of_mem_replicate this;cases x<;>simp only[yr,Option.some.injEq,reduceCtorEq]at this;subst this;exact⟨_,rfl⟩
 refine⟨ls.map λx=>match x with| .int _ n=>n|_=>0,?_,?_,?_⟩
 · rw[m6,Ix]
   conv=>lhs;rw[←List.map_id ls]
   refine dd λx hx=>?_
   obtain⟨n,rfl⟩:=e x hx;rfl
 · have:=congrArg List.length h1
   simpa using this
 · intro n hn
   obtain⟨x,hx,rfl⟩:=eS.1 hn;obtain⟨n,rfl⟩:=e x hx;exact h2 _ hx
theorem litI_cells(l:List Int):(m6 l).map g8=ints l:=by simp[m6,ints,g8]
theorem xA{a:Addr}{v:Value}(h:W.cell? a=some v): ∃b o cs T z,a=⟨b,o,none⟩∧W.heap[b]?=some (.cells (List.toArray cs) T z)∧cs[o]?=some v:=by
 obtain⟨b,o,s⟩:=a;simp only[World.cell?]at h;split at h
 · rename_i cs T z hb
   cases s with
   |some s=>simp at h
   |none=>exact⟨b,o,cs.toList,T,z,rfl,by simpa using hb,by simpa using h⟩
 · cases h
theorem HM{t e:TypeId}{fuel size:Nat}{α:Type}{E:List Value→α→Hl→Prop}{cs:List Value}{x:DataW H×List MemPlace}(ht:P.underlying t=some (.slice e))(hc:P.cellsOf e=size)(hs:0<size)
 (hE: ∀fuel cs x,DataW.trod enc P W B0 spare held fuel e cs=some x→∃a,E cs a (hp W)) (h:DataW.trod enc P W B0 spare held fuel t cs=some x): ∃u l,cs=[u]∧IsL size E u l (hp W):=by
 classical
 rcases Deep.open_slice ht h with⟨rfl,_⟩| ⟨a,len,cap,m,n,D,Pl,rfl,_,hl,hm,hmm,_,hx⟩
 · exact⟨_,[],rfl, .inl ⟨rfl,rfl⟩⟩
 · have hlm:len≤m:=by rw[hmm];split<;>omega
   by_cases h0:len=0
   · subst h0
     exact⟨_,[],rfl, .inr (.inl ⟨a,cap,rfl,rfl⟩)⟩
   · have first: ∃v,W.cell? a=some v:=by
      obtain⟨cs',h1,_⟩:=hx 0 (by omega);obtain⟨_,h2,h3⟩:=World.cells?_some h1;have:=h3 0 (by omega);rw[gq,show(a.add 0).add 0=a from rfl,List.getElem?_eq_getElem (by omega)]at this;exact⟨_,this⟩
     obtain⟨v,hv⟩:=first;obtain⟨b,o,bs,T,z,rfl,hb,_⟩:=xA hv
     have each: ∀i,i<len→∃us,us.length=size∧(bs.drop (o+i*size)).take size=us∧∃x,E us x (hp W):=λi hi=>by
      obtain⟨cs',h1,h2⟩:=hx i (by omega);obtain⟨_,h3,h4⟩:=World.cells?_some h1;rw[hc]at h3 h4;refine⟨cs',h3,?_,hE _ _ _ h2⟩;apply List.ext_getElem?;intro k;rw[List.getElem?_take];split
      · rename_i hk
        have:=h4 k hk;rw[pX,pX]at this;simp only[World.cell?,hb,Option.isSome_none,Bool.false_eq_true,if_false]at this;rw[List.getElem?_drop]
        simpa using this
      · rw[List.getElem?_eq_none (by omega)]
     obtain⟨f,hf⟩: ∃f:Nat→α,∀i,i<len→E ((bs.drop (o+i*size)).take size) (f i) (hp W):=by
      have each': ∀i,i<len→∃x,E ((bs.drop (o+i*size)).take size) x (hp W):=λi hi=>by
       obtain⟨us,_,e2,q⟩:=each i hi;rw[e2];exact q
      obtain⟨x,_⟩:=each' 0 (by omega)
      haveI:Inhabited α:=⟨x⟩
      exact Deep.choose_lt each'
     refine⟨_,(List.range len).map f,rfl, .inr (.inr ⟨b,o,cap,bs,T,z,by simp,by simpa using hl,by simpa [maxLen]using hm,hb,λj hj=>?_⟩)⟩;have hj':j<len:=by simpa using hj
     obtain⟨us,e1,e2,_⟩:=each j hj';exact⟨us,e1,e2,by rw[←e2];simpa using hf j hj'⟩
theorem listV_in{t e:TypeId}{size:Nat}{α:Type}{E:List Value→α→Hl→Prop}{v:Value}{d:DataW H}{ps:List MemPlace}(ht:P.underlying t=some (.slice e))(hc:P.cellsOf e=size)(hs:0<size)(hv:Value.okWide P W .any B0 t v)
 (hE: ∀fuel cs x,DataW.trod enc P W 0 spare held fuel e cs=some x→∃a,E cs a (hp W)) (hd:DataW.Trod enc P W 0 spare held t v d ps): ∃l,IsL size E v l (hp W):=by
 obtain⟨fuel,hf⟩:=hd;obtain⟨u,l,h1,h2⟩:=HM ht hc hs hE hf;obtain⟨a,len,cap,rfl⟩:=WideShapes.okWide_slice ht hv;simp[Value.cells]at h1;subst h1;exact⟨l,h2⟩
end
section
variable {P:Program} {w0:World} {F:Hl} {n:Nat} {ops:Array Oper} {Q:QQ} {D:List Deferred} {L:List (Nat×Value)} {H:List HP} {o:Oper} {l:List Oper} {d:Nat} {S:World→Prop}
def w8(P:Program)(t:TypeId)(rv:Value)(nm:String)(f:FuncId):Prop:=∀w,(method (P.types.size+Made.depth) t rv nm).run P w= .ok (f,rv) w
theorem TL.callI{recv:Operand}{nm:String}{t:TypeId}{rv:Value}{f:FuncId}{xs:Array Operand}{ts:Array TypeId}{vs:List Value}{R:Hl→Prop}{A B:List HP}{p:Value→List HP→Prop}(hw:Want n D ops o L)
 (ho:o.op= .call {callee:= .invoke recv nm,args:=xs,argTypes:=ts}) (hd:o.dst=some d) (hn:Nat.blt d n=true) (hr:cG L recv=some (.iface t rv)) (hm:w8 P t rv nm f) (hf:Named P f) (hx:zM L xs.toList=some vs)
 (sp:Does P f (rv::vs).toArray R A (dm p)) (hp: ∀h,bE H h→bE (A++B) h) (hR: ∀g,Dj g F→bE B g→R (jn g F))
 (hret: ∀v H',p v H'→TL P w0 F n ops Q l D ((d,v)::L) (H'++B)):TL P w0 F n ops Q (o::l) D L H:=
 TL.callw hw (λa w g=>by
  have e:xs.map a.eval=vs.toArray:=g.evals hx;have e2:a.eval recv= .iface t rv:=g.eval hr;have e3:=hm w
  simp[execOp,ho,resolve,invoke,callMethod,e,e2,e3,mf hf])
  sp hp hR (λv H' q a g w s m=>by rw[hd];exact hret v H' q _ w (g.put (lb hn) v) s m) (λ_ _ h=>h.elim) (λ_ h=>h)
theorem TE.retCTT{H':List HP}{fn:Func}{post:Ending→List HP→Prop}{t t' t2 ty e m b:Nat}{cs:List Value}{z:Nat×Nat}{dt:TypeDesc}{v' v2:Value}(hr:fn.results=#[.cell t ty, .tmp t', .tmp t2])(he:lk L t=some (.pointer (some ⟨b,0,none⟩)))(e':lk L t'=some v')(e2:lk L t2=some v2)
 (hu:P.underlying ty=some dt) (hp:ei dt=false) (hm:(P.info? ty).map (·.size)=some m) (hR:Rd (Sat H F) b (.cells cs.toArray e z)) (hl:cs.length=m) (hk: ∀h,bE H h→bE H' h)
 (h:post (.returned (.tuple #[.agg cs.toArray,v',v2])) H'):TE w0 F n (bodyPost P fn (jD post w0 F)) .ret [] L H:=λa w f s q=>by
 have h1:a.tmps.getD t undef= .pointer (some ⟨b,0,none⟩):=f.eval (x:= .tmp t) he;have h2:a.tmps.getD t' undef=v':=f.eval (x:= .tmp t') e';have h4:a.tmps.getD t2 undef=v2:=f.eval (x:= .tmp t2) e2
 have h3:(results fn a.tmps).run P w= .ok (.tuple #[.agg cs.toArray,v',v2]) w:=by
  have h1':a.tmps[t]?.getD undef= .pointer (some ⟨b,0,none⟩):=by simpa using h1
  have h2':a.tmps[t']?.getD undef=v':=by simpa using h2
  have h4':a.tmps[t2]?.getD undef=v2:=by simpa using h4
  simp[results,hr,h1',h2',h4',asAddr,run_loadVar_row w b e ty cs.toArray z dt (hR w q) hu (by cases dt<;>simp[ei]at hp ⊢) (by simp[hm,hl])]
 exact bodyPost_ret h3 f.2.1 ⟨s,H',q.mono hk,h⟩
theorem PV.ifaceNotNil{t t' u:TypeId}{x:Operand}{v:Value}{ms:Array (String×TypeId)}(ho:o.op= .binOp .neq t x (.const .nilIface) t')(ht:P.underlying t=some (.interface ms))(hx:cG L x=some (.iface u v)):PV P n D L S o (.bool true):=
 fY ho hx rfl λw=>by
  have:=qo (P:=P) (w:=w) 9999 (u:=u) (v:=v) ht;simp[eqGuard,binOp,Op.equal,Op.maxDepth,this]
end
theorem EQ(i:Nat){v:Value}{l:List Int}{e:Nat}{B:List HP}{F:Hl}(hi:Nat.blt i B.length=true)(hH:B.getD i (λ_=>True)=own v l.length (Api.ints l) e 1): ∀g,Dj g F→bE B g→IsI .i64 v l (jn g F):=λg _ s=>by
 obtain⟨h1,h2,d',rfl,a,_⟩:=eW i (lb hi) s;rw[hH]at a;rcases a with⟨_,⟨h0,hn,_⟩| ⟨g,cap,cur,hv,hh,h3,h4,h5,h6⟩⟩
 · exact .inl ⟨h0,List.eq_nil_of_length_eq_zero hn⟩
 · refine .inr ⟨g,0,cap,cur.toList,e,(0,0),hv,h3,by simp only[maxLen]at h4;omega,gL (gL (by rw[hh];simp[sg])),λj hj=>?_⟩
   rw[fH]at h6;have e1:(cur.toList.take l.length)[j]?=some (.int .i64 (l.getD j 0)):=by rw[h6];exact Api.ints_get l j hj
   rw[List.getElem?_take,if_pos hj]at e1
   simpa using e1
variable {P:Program} {w0:World} {F:Hl} {n:Nat} {ops:Array Oper} {Q:QQ} {D:List Deferred} {L:List (Nat×Value)} {H:List HP} {d:Nat} {o:Oper} {l:List Oper}
theorem RU{fn:Func}{post:Ending→List HP→Prop}{t t' t2 ty e m b:Nat}{cs:List Value}{dt:TypeDesc}{v' v2:Value}(k:Nat)(is:List Nat)(hu:P.underlying ty=some dt)(hm:(P.info? ty).map (·.size)=some m)(hl:cs.length=m)(h:post (.returned (.tuple #[.agg cs.toArray,v',v2])) ((AZ H is).take is.length))(hr:fn.results=#[.cell t ty, .tmp t', .tmp t2]:=by exact rfl)(he:lk L t=some (.pointer (some ⟨b,0,none⟩)):=by exact rfl)(e':lk L t'=some v':=by exact rfl)(e2:lk L t2=some v2:=by exact rfl)(hp:ei dt=false:=by exact rfl)(hk:Nat.blt k H.length=true:=by exact rfl)(hH:H.getD k (λ_=>True)=ah b cs e:=by exact rfl)(hs:I5 H.length is=true:=by exact rfl):TE w0 F n (bodyPost P fn (jD post w0 F)) .ret [] L H:=TE.retCTT hr he e' e2 hu hp hm (dN k hk hH) hl (λ_ s=>ak is hs s) h
end Leg
end

section
namespace Dsk
open Go Leg Codec Api
abbrev jP:=List UInt8
def zs:jP:=List.replicate 64 0
def A0(b:jP):Value:= .agg (eb b).toArray
abbrev fA:=List (Int×jP)
def iy(s:fA)(k:Int):jP:=match s with
 | []=>zs
 | (a,b)::s=>if k=a then b else iy s k
def nJ(s:fA)(k:Int)(v:jP):fA:=match s with
 | []=>[(k,v)]
 | (a,b)::s=>if k=a then(a,v)::s else(a,b)::nJ s k v
theorem G0(s:fA)(k j:Int)(v:jP):iy (nJ s k v) j=if j=k then v else iy s j:=by
 induction s with
 |nil=>simp[nJ,iy]
 |cons p s ih=>
  obtain⟨a,b⟩:=p;simp only[nJ]
  by_cases h:k=a
  · subst h
    rw[if_pos rfl]
    by_cases h2:j=k
    · simp[iy,h2]
    · simp[iy,h2]
  · rw[if_neg h]
    simp only[iy]
    by_cases h2:j=a
    · subst h2
      rw[if_pos rfl,if_pos rfl,if_neg (by omega)]
    · rw[if_neg h2,if_neg h2,ih]
def qW(s:fA):List (Int×Value):=s.map λp=>(p.1,A0 p.2)
theorem wu(s:fA)(k:Int):(Gf (qW s) k).getD (A0 zs)=A0 (iy s k):=by
 induction s with
 |nil=>rfl
 |cons p s ih=>
  obtain⟨a,b⟩:=p;simp only[qW,fu,Gf,iy]at ih ⊢;split
  · rfl
  · exact ih
theorem HQ(s:fA)(k:Int)(v:jP):wt (qW s) k (A0 v)=qW (nJ s k v):=by
 induction s with
 |nil=>rfl
 |cons p s ih=>
  obtain⟨a,b⟩:=p;simp only[qW,fu,wt,nJ]at ih ⊢;split
  · rfl
  · rw[ih];rfl
def cT(p:Int×jP):List Value:= .int .i64 p.1::eb p.2
def dC(ws:fA):List Value:=ws.flatMap cT
def eM(b:List UInt8):jP:=b++List.replicate (64-b.length) 0
theorem dw{b:List UInt8}(h:b.length≤64):(eM b).length=64:=by simp[eM];omega
def Whole(s:fA):Prop:=∀p∈s,p.2.length=64
theorem cd{p:Int×jP}(h:p.2.length=64):(cT p).length=65:=by simp[cT,eb,h]
theorem E8{ws:fA}(h:Whole ws){k:Nat}(hk:k<ws.length):((dC ws).drop (k*65)).take 65=cT ws[k]:=by
 induction ws generalizing k with
 |nil=>simp at hk
 |cons p ws ih=>
  have h1:=cd (h p (by simp));simp only[dC,cp]at ih ⊢;cases k with
  |zero=>
   simp only[gq,aV,od];rw[cm (by omega),aB (by omega)]
  |succ k=>
   rw[ie,cF (by omega),h1,show(k+1)*65-65=k*65 by omega,be]
   simpa using ih (λq hq=>h q (by simp[hq])) (by simpa using hk)
theorem ct{s:fA}(h:Whole s)(k:Int):(iy s k).length=64:=by
 induction s with
 |nil=>simp[iy,zs]
 |cons p s ih=>
  obtain⟨a,b⟩:=p;simp only[iy];split
  · exact h (a,b) (by simp)
  · exact ih λq hq=>h q (by simp[hq])
theorem Whole.put{s:fA}(h:Whole s)(k:Int){v:jP}(hv:v.length=64):Whole (nJ s k v):=by
 induction s with
 |nil=>intro p hp;simp only[nJ,im]at hp;subst hp;exact hv
 |cons p s ih=>
  obtain⟨a,b⟩:=p;intro q hq;simp only[nJ]at hq;split at hq
  · rcases cf.1 hq with rfl|hq
    · exact hv
    · exact h q (by simp[hq])
  · rcases cf.1 hq with rfl|hq
    · exact h (a,b) (by simp)
    · exact ih (λq hq=>h q (by simp[hq])) q hq
theorem Whole.add{s:fA}(h:Whole s)(k:Int){v:jP}(hv:v.length=64):Whole (s++[(k,v)]):=λp hp=>by
 rcases eC.1 hp with hp|hp
 · exact h p hp
 · simp only[im]at hp;subst hp;exact hv
section
variable {P:Program} {n:Nat} {D:List Deferred} {L:List (Nat×Value)} {S:World→Prop} {o:Oper}
theorem PV.mapNil{t t' k e m:TypeId}{x y:Operand}(ho:o.op= .binOp .eql t x y t')(hu:P.underlying t=some (.map k e))(hx:cG L x=some (.map (some m)))(hy:cG L y=some (.map none)):PV P n D L S o (.bool false):=
 fY ho hx hy λw=>by
  have e:(Op.equal t (.map (some m)) (.map none)).run P w= .ok false w:=run_equalIn_map_nil w 9999 t k e (some m) hu;simp[eqGuard,binOp,e]
end
end Dsk
namespace Dsk
open Go Leg Codec Api
theorem yR{k:Int}{b:List UInt8}(h:b.length≤64):wr (.int .i64 k::eb zs) 1 ((eb b).take (min b.length 64))=cT (k,eM b):=by
 have e:(eb b).take (min b.length 64)=eb b:=aB (by rw[a8];omega);rw[e,wr,a8]
 have e2:(Value.int IntKind.i64 k::eb zs).drop (1+b.length)=eb (List.replicate (64-b.length) 0):=by
  rw[show 1+b.length=b.length+1 by omega,gW];rw[eb,eb,zs,←kK,List.drop_replicate]
 rw[e2];simp only[cT,eM,eb,cS,List.take_succ_cons,List.take_zero,l4,be]
theorem HX(vs:List Value): ∀(j:Nat) (pre zeros:List Value),pre.length=j→zeros.length=vs.length→
 ((vs.zipIdx j).foldl (λ(cs:Array Value) (c,i)=>cs.setIfInBounds (0+i) c) (pre++zeros).toArray)=(pre++vs).toArray:=by
 induction vs with
 |nil=>intro j pre zeros _ h;rw[List.eq_nil_of_length_eq_zero h];rfl
 |cons v vs ih=>
  intro j pre zeros hp hz
  match zeros,hz with
  |z::zeros,hz=>
   rw[List.zipIdx_cons,List.foldl_cons]
   have e:(pre++z::zeros).toArray.setIfInBounds (0+j) v=((pre++[v])++zeros).toArray:=by
    rw[bl,List.setIfInBounds_toArray,gh _ _ (by omega),hp,xO,bV,aL];rfl
   simp only[e];rw[ih (j+1) (pre++[v]) zeros (by simp[hp]) (by simpa using hz),aL];rfl
theorem Dz{zeros:Array Value}{vs:List Value}(h:zeros.size=vs.length):Instr.fill (λi=>some (i*vs.length,vs.length)) zeros [(0, .agg vs.toArray)]=some vs.toArray:=by
 have e:=HX vs 0 [] zeros.toList rfl (by simpa using h);simp only[be,Array.toArray_toList]at e;simp only[Instr.fill,Value.cells,List.size_toArray,gq,bl,ne_eq,not_true_eq_false,false_or,decide_false,Bool.false_or];rw[if_neg (by simp[h])];rw[←Array.foldl_toList,Array.toList_zipIdx];simp only[bl]at e;rw[e]
theorem mm{zeros:Array Value}{vs:List Value}{size:Nat}(h:vs.length=size)(hz:zeros.size=size):Instr.fill (λi=>some (i*size,size)) zeros [(0, .agg vs.toArray)]=some vs.toArray:=by
 subst h;exact Dz hz
theorem ir(p:Int×jP): ∀u∈cT p,u.oneCell'=true:=by
 intro u hu;rcases cf.1 hu with rfl|hu
 · rfl
 · exact eU _ u hu
end Dsk
namespace Leg
open Go
section
variable {P:Program} {w0:World} {F:Hl} {n:Nat} {ops:Array Oper} {Q:QQ} {D:List Deferred} {L:List (Nat×Value)} {H:List HP} {l:List Oper}
end
end Leg
namespace Dsk
open Go Leg Codec Api
def kJ(ws:fA)(k:Nat):Int×jP:=ws.getD k (0,zs)
theorem u9{ws:fA}{k:Nat}(hk:k<ws.length):kJ ws k=ws[k]:=by simp[kJ,List.getD_eq_getElem?_getD,hk]
theorem dK{ws:fA}(h:Whole ws){k:Nat}(hk:k<ws.length):(kJ ws k).2.length=64:=by rw[u9 hk];exact h _ (dW hk)
theorem p5{ws:fA}(h:Whole ws){k:Nat}(hk:k<ws.length):((dC ws).drop (k*65)).take 65=cT (kJ ws k):=by rw[u9 hk];exact E8 h hk
theorem Fa{ws:fA}(h:Whole ws){k:Nat}(hk:k<ws.length):(dC ws)[k*65]?=some (.int .i64 (kJ ws k).1):=by
 have e:=congrArg (λl:List Value=>l[0]?) (p5 h hk)
 simpa [cT]using e
theorem E9{ws:fA}(h:Whole ws){k:Nat}(hk:k<ws.length):((dC ws).drop (k*65+1)).take 64=eb (kJ ws k).2:=by
 have e:=congrArg (λl:List Value=>l.drop 1) (p5 h hk);simp only[oe,io,cT,gW,aV]at e;exact e
theorem uZ{p:Int×jP}(h:p.2.length=64):((cT p).drop 1).take 64=eb p.2:=by
 simp only[cT,gW,aV];exact aB (by rw[a8,h];exact aK _)
theorem As{p:Int×jP}{c:Nat}(h:p.2.length=64)(hc:c≤64):((cT p).drop 1).take (min c 64)=(eb p.2).take c:=by
 simp only[cT,gW,aV];congr 1;omega
theorem ve{l:List Value}{n:Nat}(h:l.length=n):(l.drop 0).take n=l:=by rw[aV,aB (by omega)]
def Bw(s ws:fA):Nat→fA
 |0=>s
 |k+1=>nJ (Bw s ws k) (kJ ws k).1 (kJ ws k).2
theorem Whole.lay{s ws:fA}(h:Whole s)(hw:Whole ws): ∀k,k≤ws.length→Whole (Bw s ws k)
 |0,_=>h
 |k+1,hk=>(Whole.lay h hw k (by omega)).put _ (dK hw (by omega))
def rN(old new:jP)(c:Nat):jP:=new.take c++old.drop c
theorem p6{old new:jP}{c:Nat}(h1:old.length=64)(h2:new.length=64):(rN old new c).length=64:=by simp[rN];omega
def pQ(n:Int):Nat:=(min (max n 0) 64).toNat
theorem Jp(n:Int):min (max n 0) 64=((pQ n:Nat):Int):=by unfold pQ;omega
theorem sG(n:Int):pQ n≤64:=by unfold pQ;omega
def mA(mask torn:Int)(c:Nat)(s:fA)(k:Nat)(p:Int×jP):fA:=
 if(k:Int)=torn then nJ s p.1 (rN (iy s p.1) p.2 c)else if mask.fdiv (2^ (k%32))%2=1 then nJ s p.1 p.2 else s
def mT(mask torn:Int)(c:Nat)(s ws:fA):Nat→fA
 |0=>s
 |k+1=>mA mask torn c (mT mask torn c s ws k) k (kJ ws k)
theorem Whole.crash{mask torn:Int}{c:Nat}{s ws:fA}(h:Whole s)(hw:Whole ws): ∀k,k≤ws.length→Whole (mT mask torn c s ws k)
 |0,_=>h
 |k+1,hk=>by
  have ih:=Whole.crash (mask:=mask) (torn:=torn) (c:=c) h hw k (by omega);simp only[mT,mA];split
  · exact ih.put _ (p6 (ct ih _) (dK hw (by omega)))
  · split
    · exact ih.put _ (dK hw (by omega))
    · exact ih
def iX(s ws:fA)(at':Int):Nat→jP
 |0=>iy s at'
 |k+1=>if(kJ ws k).1=at' then(kJ ws k).2 else iX s ws at' k
theorem yf{s ws:fA}(h:Whole s)(hw:Whole ws)(at':Int): ∀k,k≤ws.length→(iX s ws at' k).length=64
 |0,_=>ct h _
 |k+1,hk=>by
  simp only[iX];split
  · exact dK hw (by omega)
  · exact yf h hw at' k (by omega)
theorem FK{s ws:fA}{at':Int}{k:Nat}(h:(kJ ws k).1=at'):iX s ws at' (k+1)=(kJ ws k).2:=by simp[iX,h]
theorem C9{s ws:fA}{at':Int}{k:Nat}(h:(kJ ws k).1≠at'):iX s ws at' (k+1)=iX s ws at' k:=by simp[iX,h]
theorem Fg{old new:jP}{c m:Nat}(hc:c≤64)(h1:old.length=64)(h2:new.length=64)(hm:m=c):wr (eb old) 0 (((eb new).take c).take m)=eb (rN old new c):=by
 subst hm;have:((eb new).take m).length=m:=by rw[bn,a8];omega
 rw[aB (by omega),wr,this,List.take_zero,be,bl];simp[eb,rN,pd,kK]
structure DS where
 s:fA
 ws:fA
 ar:Bool
 lf:Int
 dn:Bool
structure DS.Ok(D:DS):Prop where
 s:Whole D.s
 ws:Whole D.ws
 lf:0≤D.lf∧D.lf≤9223372036854775807
def DS.new:DS:=⟨[],[],false,0,false⟩
def DS.arm(D:DS)(n:Int):DS:= {D with ar:=true,lf:=max n 0}
def DS.write(D:DS)(at':Int)(bs:List UInt8):Int×DS:=
 if at'<0∨2048≤at'∨64<bs.length then(5,D)
 else if D.dn=true∨(D.ar=true∧D.lf=0)then(4,{D with dn:=true})
 else(0,{D with ws:=D.ws++[(at',eM bs)],lf:=if D.ar=true then D.lf-1 else D.lf,dn:=false})
def DS.sync(D:DS):Int×DS:=if D.dn=true then(4,D)else(0,{D with s:=Bw D.s D.ws D.ws.length,ws:=[]})
def DS.crash(D:DS)(mask torn n:Int):DS:=⟨mT mask torn (pQ n) D.s D.ws D.ws.length,[],false,0,false⟩
def DS.read(D:DS)(at':Int):jP:=iX D.s D.ws at' D.ws.length
theorem mu:Whole []:=λ_ h=>absurd h (by simp)
theorem DS.new_ok:DS.new.Ok:=⟨mu,mu,⟨by decide,by decide⟩⟩
theorem DS.write_ok{D:DS}(h:D.Ok)(at':Int)(bs:List UInt8):(D.write at' bs).2.Ok:=by
 unfold DS.write;split
 · exact h
 · split
   · exact⟨h.s,h.ws,h.lf⟩
   · rename_i h1 h2
     refine⟨h.s,h.ws.add _ (dw (by omega)),?_⟩;have:=h.lf;show 0≤(if D.ar=true then D.lf-1 else D.lf)∧(if D.ar=true then D.lf-1 else D.lf)≤9223372036854775807;split<;>rename_i h3
     · have:D.lf≠0:=λq=>h2 (.inr ⟨h3,q⟩)
       exact⟨by omega,by omega⟩
     · exact this
theorem DS.sync_ok{D:DS}(h:D.Ok):D.sync.2.Ok:=by
 unfold DS.sync;split
 · exact h
 · exact⟨h.s.lay h.ws _ (aK _),mu,h.lf⟩
theorem DS.crash_ok{D:DS}(h:D.Ok)(mask torn n:Int):(D.crash mask torn n).Ok:=⟨h.s.crash h.ws _ (aK _),mu,⟨by simp[DS.crash],by simp[DS.crash]⟩⟩
theorem DS.read_len{D:DS}(h:D.Ok)(at':Int):(D.read at').length=64:=yf h.s h.ws _ _ (aK _)
abbrev lO:= @DS.read_len
theorem DS.write_ws{D:DS}{at':Int}{bs:List UInt8}:(D.write at' bs).2.ws.length≤D.ws.length+1:=by
 unfold DS.write;split
 · simp
 · split
   · simp
   · simp
abbrev M0(DT WT:Nat)(d:Nat)(D:DS):HP:=pack λx:Nat×Value=>[ah d [.map (some x.1),x.2, .bool D.ar, .int .i64 D.lf, .bool D.dn] DT,jJ x.1 (qW D.s),own x.2 D.ws.length (dC D.ws) WT 65]
end Dsk
end

section
namespace Go.Proofs.YtjblgopghhgflaaGreat
open Go Leg Codec Api Dsk
theorem zR(d m:Nat)(wv:Value)(ar dn:Bool)(lf:Int):
 DT 57 #[(.pointer (some ⟨d,0,none⟩))] T0 [ah d [(.map (some m)),wv,(.bool (ar)),(.int .i64 (lf)),(.bool (dn))] 161] (RI (.bool dn) [ah d [(.map (some m)),wv,(.bool (ar)),(.int .i64 (lf)),(.bool (dn))] 161]):=by
 refine BD 7 Tryz.func57 rfl rfl rfl λw0 F hF=>sr λ_ J1=>PS ?_
 refine nx J1 (sr λ_ J2=>P2 ?_);refine FA 4 gz kM ?_;refine LA 0 Y4 ?_;refine PS ?_;exact nx J2 (ai (WK [0] (au rfl rfl ⟨rfl,rfl⟩)))
theorem BS(d m:Nat)(wv:Value)(ar dn:Bool)(lf n:Int):
 DT 61 #[(.pointer (some ⟨d,0,none⟩)),(.int .i64 (n))] T0 [ah d [(.map (some m)),wv,(.bool (ar)),(.int .i64 (lf)),(.bool (dn))] 161] (dm (λ_ H=>H=[ah d [(.map (some m)),wv,(.bool true),(.int .i64 ((max n 0))),(.bool (dn))] 161])):=by
 refine BD 12 Tryz.func61 rfl rfl rfl λw0 F hF=>ad (P3 ?_)
 refine tp (xL rfl rfl rfl) ?_;refine PS ?_;refine FA 2 gz kM ?_;refine S0 0 kM ?_;refine PS ?_;refine FA 3 gz aQ ?_;refine S0 0 aQ ?_;exact ap (WK [0] (bA rfl rfl))
theorem BR:
 DT 54 #[] T0 [] (dm (λv H=>∃d m,v= .pointer (some ⟨d,0,none⟩)∧H=[ah d [(.map (some m)),(.slice none 0 0),(.bool false),(.int .i64 0),(.bool false)] 161,jJ m ([])])):=by
 refine BD 4 Tryz.func54 rfl rfl rfl λw0 F hF=>sr λ_ J1=>PS ?_
 refine nx J1 (sr λ_ J2=>TL.makeMap (aa rfl) rfl rfl rfl (λm1=>BV #[(.map (some m1)),(.slice none 0 0),(.bool false),(.int .i64 0),(.bool false)] ?_));refine XB λb3=>?_
 refine PS ?_;exact nx J2 (ai (WK [0,0] (au rfl rfl ⟨b3,m1,rfl,rfl⟩)))
theorem zP(d m:Nat)(wv:Value)(s:fA)(ar dn:Bool)(lf at':Int)(hs:Whole s):
 DT 68 #[(.pointer (some ⟨d,0,none⟩)),(.int .i64 (at'))] T0 [ah d [(.map (some m)),wv,(.bool (ar)),(.int .i64 (lf)),(.bool (dn))] 161,jJ m (qW s)] (RI (A0 (iy s at')) [ah d [(.map (some m)),wv,(.bool (ar)),(.int .i64 (lf)),(.bool (dn))] 161,jJ m (qW s)]):=by
 refine BD 11 Tryz.func68 rfl rfl rfl λw0 F hF=>sr λ_ J1=>XA Cu λb4=>?_
 refine nx J1 (sr λ_ J2=>P2 ?_);refine FA 0 gz AB ?_;refine LA 1 xC ?_;refine PS ?_;refine tp (PV.lookup rfl xC Y3 Cu rfl rfl (RdM.own 2 rfl rfl) (wu _ _)) ?_;exact bJ (vs:=eb (iy s at')) (i:=0) (aa rfl) rfl rfl rfl rfl rfl (by rw[a8,ct hs];exact jy) (eU _) rfl rfl (by rw[a8,ct hs];exact aK _) (fD (by rw[a8,ct hs];rfl)) rfl (nx J2 (ai (xF (H':=[ah d [(.map (some m)),wv,(.bool (ar)),(.int .i64 (lf)),(.bool (dn))] 161,jJ m (qW s)]) rfl rfl o5 rfl jy (RO 0) (by rw[a8];exact ct hs _) (λ_ s=>ak [1,1] rfl s) ⟨rfl,rfl⟩)))
theorem dB:Tryz.prog.follows .mixedOrders=true:=by kernel_rfl
theorem oG(d m:Nat)(wv:Value)(s:fA)(ar dn:Bool)(lf at':Int)(b:List UInt8)(hb:b.length=64):
 DT 114 #[(.pointer (some ⟨d,0,none⟩)),(.int .i64 (at')),(.agg (eb b).toArray)] T0 [ah d [(.map (some m)),wv,(.bool (ar)),(.int .i64 (lf)),(.bool (dn))] 161,jJ m (qW s)] (dm (λ_ H=>H=[ah d [(.map (some m)),wv,(.bool (ar)),(.int .i64 (lf)),(.bool (dn))] 161,jJ m (qW (nJ s at' b))])):=by
 refine BD 21 Tryz.func114 rfl rfl rfl λw0 F hF=>sr λ_ J1=>XY (eb b) λb5=>?_
 refine nx J1 (ab λ_ J2=>sr λ_ J3=>P2 ?_);refine FA 0 gz AB ?_;refine LA 1 xC ?_;refine tp (PV.mapNil rfl xC rfl rfl) ?_;refine nx J3 (CN (qx J2 (D2 1 0 dB ?_)));refine PD 0 ?_;refine PD 1 ?_;refine FD 2 0 gz AB ?_;refine LX 3 xC (.map (some m)) ?_ (hc:=by exact rfl);refine PD 4 ?_;refine ta 5 rfl (aN (vs:=eb b) rfl o5 rfl jy rfl (λ_ h=>h.2.2.1) (by rw[a8];exact hb) (by rw[aV,aB (by rw[a8,hb];exact aK _)])) ?_;refine AL 6 ?_;exact TL.mapUpdate (i:=2) (H':=[ah b5 (eb b) 128,ah d [(.map (some m)),wv,(.bool (ar)),(.int .i64 (lf)),(.bool (dn))] 161,jJ m (qW (nJ s at' b))]) (aa rfl) rfl rfl xC Y3 rfl rfl rfl rfl rfl (congrArg (λq=>List.set _ 2 (jJ m q)) (HQ _ _ _)) (EN (DN (WK [1,1] (bA rfl rfl))))
theorem xu(d m:Nat)(wv:Value)(ws:fA)(ar dn:Bool)(lf at':Int)(x:Value)(bs:List UInt8)(hl:0≤lf∧lf≤9223372036854775807)(hw:ws.length≤1000000000):
 DT 70 #[(.pointer (some ⟨d,0,none⟩)),(.int .i64 (at')),x] (IsW x bs) [ah d [(.map (some m)),wv,(.bool (ar)),(.int .i64 (lf)),(.bool (dn))] 161,own wv (ws.length) (dC ws) 187 65] (dm (λv H=>if at'<0∨2048≤at'∨64<bs.length then v= .int .i64 5∧H=[ah d [(.map (some m)),wv,(.bool (ar)),(.int .i64 (lf)),(.bool (dn))] 161,own wv (ws.length) (dC ws) 187 65]else if dn=true∨(ar=true∧lf=0)then v= .int .i64 4∧H=[ah d [(.map (some m)),wv,(.bool (ar)),(.int .i64 (lf)),(.bool true)] 161,own wv (ws.length) (dC ws) 187 65]else v= .int .i64 0∧∃wv',H=[ah d [(.map (some m)),wv',(.bool (ar)),(.int .i64 ((if ar=true then lf-1 else lf))),(.bool false)] 161,own wv' ((ws++[(at',eM bs)]).length) (dC (ws++[(at',eM bs)])) 187 65])):=by
 refine BD 64 Tryz.func70 rfl rfl rfl λw0 F hF=>sr λ_ J1=>PS ?_
 refine nx J1 (ab λ_ J2=>sr λ_ J3=>P2 ?_);refine an ?_ ?_<;>intro h9;refine PS ?_;refine UT ?_;refine UT ?_;refine P2 ?_
 iterate 3 refine UT ?_
 refine PS ?_;refine nx J3 (CY (sr λ_ J4=>PS ?_));refine nx J4 (ai (ae (WK [0,0] (au rfl rfl ?_))));show(if _ then _ else _)
 first
  | (rw[if_pos (by omega)];exact⟨rfl,rfl⟩)
  | (rw[if_neg (by omega),if_pos (by simp_all)];exact⟨rfl,by simp_all<;>rfl⟩)
  | (rw[if_neg (by omega),if_neg (by simp_all)];exact⟨rfl,v61,by simp_all<;>rfl⟩)
 refine P3 ?_;refine an ?_ ?_<;>intro h12;refine P2 ?_
 iterate 3 refine UT ?_
 refine PS ?_;refine nx J3 (CY (sr λ_ J5=>PS ?_));refine nx J5 (ai (ae (WK [0,0] (au rfl rfl ?_))));show(if _ then _ else _)
 first
  | (rw[if_pos (by omega)];exact⟨rfl,rfl⟩)
  | (rw[if_neg (by omega),if_pos (by simp_all)];exact⟨rfl,by simp_all<;>rfl⟩)
  | (rw[if_neg (by omega),if_neg (by simp_all)];exact⟨rfl,v61,by simp_all<;>rfl⟩)
 refine P3 ?_;refine tq (dF rfl gp rfl hF.len) ?_;refine PS ?_;refine an ?_ ?_<;>intro h17;refine PS ?_;refine nx J3 (CY (sr λ_ J6=>PS ?_));refine nx J6 (ai (ae (WK [0,0] (au rfl rfl ?_))));show(if _ then _ else _)
 first
  | (rw[if_pos (by omega)];exact⟨rfl,rfl⟩)
  | (rw[if_neg (by omega),if_pos (by simp_all)];exact⟨rfl,by simp_all<;>rfl⟩)
  | (rw[if_neg (by omega),if_neg (by simp_all)];exact⟨rfl,v61,by simp_all<;>rfl⟩)
 refine PS ?_;refine nx J3 (CN (qx J2 (ab λ_ J7=>sr λ_ J8=>P2 ?_)));refine FA 2 gz kM ?_;refine LA 0 Y4 ?_;refine aX ?_ ?_<;>intro h22;refine P3 ?_;refine FA 3 gz aQ ?_;refine LA 0 Y3 ?_;refine PS ?_;refine an ?_ ?_<;>intro h28;refine PS ?_;refine nx J8 (CY (ad (P2 ?_)));refine FA 4 gz kM ?_;refine S0 0 kM ?_;refine nx J7 (ab λ_ J9=>sr λ_ J10=>P2 ?_);refine FA 4 gz kM ?_;refine LA 0 Y4 ?_;refine nx J10 (CY (sr λ_ J11=>PS ?_));refine nx J11 (ai (ae (WK [0,0] (au rfl rfl ?_))));show(if _ then _ else _)
 first
  | (rw[if_pos (by omega)];exact⟨rfl,rfl⟩)
  | (rw[if_neg (by omega),if_pos (by simp_all)];exact⟨rfl,by simp_all<;>rfl⟩)
  | (rw[if_neg (by omega),if_neg (by simp_all)];exact⟨rfl,v61,by simp_all<;>rfl⟩)
 refine PS ?_;refine nx J8 (CN (qx J7 (ab λ_ J12=>sr λ_ J13=>P2 ?_)));refine FA 4 gz kM ?_;refine LA 0 Y4 ?_;refine aX ?_ ?_<;>intro h36;refine nx J13 (CY (sr λ_ J14=>PS ?_));refine nx J14 (ai (ae (WK [0,0] (au rfl rfl ?_))));show(if _ then _ else _)
 first
  | (rw[if_pos (by omega)];exact⟨rfl,rfl⟩)
  | (rw[if_neg (by omega),if_pos (by simp_all)];exact⟨rfl,by simp_all<;>rfl⟩)
  | (rw[if_neg (by omega),if_neg (by simp_all)];exact⟨rfl,v61,by simp_all<;>rfl⟩)
 refine nx J13 (CN (qx J12 (ab λ_ J15=>sr λ_ J16=>P2 ?_)));refine FA 2 gz kM ?_;refine LA 0 Y4 ?_;refine aX ?_ ?_<;>intro h40;refine nx J16 (CY (ad (P2 ?_)));refine FA 3 gz aQ ?_;refine LA 0 Y3 ?_;refine tp (iP rfl rfl rfl (bI (by omega) (by omega))) ?_;refine PS ?_;refine FA 3 gz aQ ?_;refine S0 0 aQ ?_;refine nx J15 (sr λ_ J17=>PS ?_);refine BV (((.int .i64 (at'))::List.replicate 64 (.int .u8 0)).toArray) ?_;refine XA E5 λb7=>?_
 refine bJ (vs:=((.int .i64 (at'))::List.replicate 64 (.int .u8 0))) (i:=0) (aa rfl) rfl rfl rfl rfl rfl l6 (by simp[Value.oneCell']) rfl rfl (Jf rfl) rfl rfl (nx J17 (sr λ_ J18=>FA 1 oK jy ?_));refine tp (nj rfl o5 k0 rfl) ?_;refine PS ?_;refine Lt (i:=0) (m:=bs.length) (news:=(eb bs)) (H':=[ah b7 (cT (at',eM bs)) 187,ah d [(.map (some m)),wv,(.bool (ar)),(.int .i64 (lf-1)),(.bool (dn))] 161,own wv (ws.length) (dC ws) 187 65]) (aa rfl) rfl rfl rfl gp k0 rfl rfl rfl rfl (λ_ _=>hF.src (λ_ h=>ez h)) (eU _) (by show 1+min bs.length 64≤65;omega) (yR (by omega)) rfl (nx J18 (ab λ_ J19=>D1 0 dB ?_));refine PD 0 ?_;refine PD 1 ?_;refine PD 2 ?_;refine FD 3 1 gz gv ?_;refine ta 5 rfl (aN (vs:=cT (at',eM bs)) rfl oK rfl l6 rfl (λ_ h=>h.2.1) (cd (dw (by omega))) (by rw[aV,aB (by rw[(cd (dw (by omega)))];exact aK _)])) ?_;refine cx [4,6] (by kernel_rfl) rfl (aE rfl ?_ ?_);refine LA 1 iL ?_;refine EN (AL 6 ?_);refine aU (cells:=(cT (at',eM bs)).toArray) (aa rfl) rfl rfl rfl iL l8 rfl rfl rfl (mm (cd (dw (by omega))) (by simp)) (λb60=>?_);change TL _ _ _ _ _ _ _ _ _ [ah b60 (cT (at',eM bs)) 187,ah b7 (cT (at',eM bs)) 187,ah d [(.map (some m)),wv,(.bool (ar)),(.int .i64 (lf-1)),(.bool (dn))] 161,own wv (ws.length) (dC ws) 187 65];refine EN (AL 7 ?_)
 refine cH (k:=3) (news:=cT (at',eM bs)) (nn':=(ws++[(at',eM bs)]).length) (xs':=dC (ws++[(at',eM bs)])) (aa rfl) rfl rfl rfl iL l8 rfl rfl rfl rfl rfl rfl (λ_ _=>ju (cd (dw (by omega))) (RO 0) (by rw[aV,aB (aK _)])) (ir _) (by simp only[maxLen];omega) (by omega) (by simp) (by simp[dC]) (λv61 ov61=>EN (PD 8 ?_));refine FD 9 1 gz gv ?_;refine AL 10 ?_;refine bD (i:=2) (aa rfl) rfl rfl rfl rfl ov61 gv rfl rfl (lb rfl) rfl rfl (EN (DN (ac J19 (sr λ_ J20=>PS ?_))));refine nx J20 (ai (WK [2,2] (au rfl rfl ?_)));show(if _ then _ else _)
 first
  | (rw[if_pos (by omega)];exact⟨rfl,rfl⟩)
  | (rw[if_neg (by omega),if_pos (by simp_all)];exact⟨rfl,by simp_all<;>rfl⟩)
  | (rw[if_neg (by omega),if_neg (by simp_all)];exact⟨rfl,v61,by simp_all<;>rfl⟩)
 refine aE rfl ?_ ?_;refine aU (cells:=(cT (at',eM bs)).toArray) (aa rfl) rfl rfl rfl iL l8 rfl rfl rfl (mm (cd (dw (by omega))) (by simp)) (λb60=>?_);change TL _ _ _ _ _ _ _ _ _ [ah b60 (cT (at',eM bs)) 187,ah b7 (cT (at',eM bs)) 187,ah d [(.map (some m)),wv,(.bool (ar)),(.int .i64 (lf-1)),(.bool (dn))] 161,own wv (ws.length) (dC ws) 187 65];refine EN (AL 4 ?_);refine LA 2 iL ?_;refine EN (AL 7 ?_);refine cH (k:=3) (news:=cT (at',eM bs)) (nn':=(ws++[(at',eM bs)]).length) (xs':=dC (ws++[(at',eM bs)])) (aa rfl) rfl rfl rfl iL l8 rfl rfl rfl rfl rfl rfl (λ_ _=>ju (cd (dw (by omega))) (RO 0) (by rw[aV,aB (aK _)])) (ir _) (by simp only[maxLen];omega) (by omega) (by simp) (by simp[dC]) (λv61 ov61=>EN (PD 8 ?_));refine FD 9 1 gz gv ?_;refine AL 10 ?_;refine bD (i:=2) (aa rfl) rfl rfl rfl rfl ov61 gv rfl rfl (lb rfl) rfl rfl (EN (DN (ac J19 (sr λ_ J21=>PS ?_))));refine nx J21 (ai (WK [2,2] (au rfl rfl ?_)));show(if _ then _ else _)
 first
  | (rw[if_pos (by omega)];exact⟨rfl,rfl⟩)
  | (rw[if_neg (by omega),if_pos (by simp_all)];exact⟨rfl,by simp_all<;>rfl⟩)
  | (rw[if_neg (by omega),if_neg (by simp_all)];exact⟨rfl,v61,by simp_all<;>rfl⟩)
 exact bz;refine nx J16 (CN (qx J15 (sr λ_ J22=>PS ?_)));refine BV (((.int .i64 (at'))::List.replicate 64 (.int .u8 0)).toArray) ?_;refine XA E5 λb7=>?_
 refine bJ (vs:=((.int .i64 (at'))::List.replicate 64 (.int .u8 0))) (i:=0) (aa rfl) rfl rfl rfl rfl rfl l6 (by simp[Value.oneCell']) rfl rfl (Jf rfl) rfl rfl (nx J22 (sr λ_ J23=>FA 1 oK jy ?_));refine tp (nj rfl o5 k0 rfl) ?_;refine PS ?_;refine Lt (i:=0) (m:=bs.length) (news:=(eb bs)) (H':=[ah b7 (cT (at',eM bs)) 187,ah d [(.map (some m)),wv,(.bool (ar)),(.int .i64 (lf)),(.bool (dn))] 161,own wv (ws.length) (dC ws) 187 65]) (aa rfl) rfl rfl rfl gp k0 rfl rfl rfl rfl (λ_ _=>hF.src (λ_ h=>ez h)) (eU _) (by show 1+min bs.length 64≤65;omega) (yR (by omega)) rfl (nx J23 (ab λ_ J24=>D1 0 dB ?_));refine PD 0 ?_;refine PD 1 ?_;refine PD 2 ?_;refine FD 3 1 gz gv ?_;refine ta 5 rfl (aN (vs:=cT (at',eM bs)) rfl oK rfl l6 rfl (λ_ h=>h.2.1) (cd (dw (by omega))) (by rw[aV,aB (by rw[(cd (dw (by omega)))];exact aK _)])) ?_;refine cx [4,6] (by kernel_rfl) rfl (aE rfl ?_ ?_);refine LA 1 iL ?_;refine EN (AL 6 ?_);refine aU (cells:=(cT (at',eM bs)).toArray) (aa rfl) rfl rfl rfl iL l8 rfl rfl rfl (mm (cd (dw (by omega))) (by simp)) (λb60=>?_);change TL _ _ _ _ _ _ _ _ _ [ah b60 (cT (at',eM bs)) 187,ah b7 (cT (at',eM bs)) 187,ah d [(.map (some m)),wv,(.bool (ar)),(.int .i64 (lf)),(.bool (dn))] 161,own wv (ws.length) (dC ws) 187 65];refine EN (AL 7 ?_)
 refine cH (k:=3) (news:=cT (at',eM bs)) (nn':=(ws++[(at',eM bs)]).length) (xs':=dC (ws++[(at',eM bs)])) (aa rfl) rfl rfl rfl iL l8 rfl rfl rfl rfl rfl rfl (λ_ _=>ju (cd (dw (by omega))) (RO 0) (by rw[aV,aB (aK _)])) (ir _) (by simp only[maxLen];omega) (by omega) (by simp) (by simp[dC]) (λv61 ov61=>EN (PD 8 ?_));refine FD 9 1 gz gv ?_;refine AL 10 ?_;refine bD (i:=2) (aa rfl) rfl rfl rfl rfl ov61 gv rfl rfl (lb rfl) rfl rfl (EN (DN (ac J24 (sr λ_ J25=>PS ?_))));refine nx J25 (ai (WK [2,2] (au rfl rfl ?_)));show(if _ then _ else _)
 first
  | (rw[if_pos (by omega)];exact⟨rfl,rfl⟩)
  | (rw[if_neg (by omega),if_pos (by simp_all)];exact⟨rfl,by simp_all<;>rfl⟩)
  | (rw[if_neg (by omega),if_neg (by simp_all)];exact⟨rfl,v61,by simp_all<;>rfl⟩)
 refine aE rfl ?_ ?_;refine aU (cells:=(cT (at',eM bs)).toArray) (aa rfl) rfl rfl rfl iL l8 rfl rfl rfl (mm (cd (dw (by omega))) (by simp)) (λb60=>?_);change TL _ _ _ _ _ _ _ _ _ [ah b60 (cT (at',eM bs)) 187,ah b7 (cT (at',eM bs)) 187,ah d [(.map (some m)),wv,(.bool (ar)),(.int .i64 (lf)),(.bool (dn))] 161,own wv (ws.length) (dC ws) 187 65];refine EN (AL 4 ?_);refine LA 2 iL ?_;refine EN (AL 7 ?_);refine cH (k:=3) (news:=cT (at',eM bs)) (nn':=(ws++[(at',eM bs)]).length) (xs':=dC (ws++[(at',eM bs)])) (aa rfl) rfl rfl rfl iL l8 rfl rfl rfl rfl rfl rfl (λ_ _=>ju (cd (dw (by omega))) (RO 0) (by rw[aV,aB (aK _)])) (ir _) (by simp only[maxLen];omega) (by omega) (by simp) (by simp[dC]) (λv61 ov61=>EN (PD 8 ?_));refine FD 9 1 gz gv ?_;refine AL 10 ?_;refine bD (i:=2) (aa rfl) rfl rfl rfl rfl ov61 gv rfl rfl (lb rfl) rfl rfl (EN (DN (ac J24 (sr λ_ J26=>PS ?_))));refine nx J26 (ai (WK [2,2] (au rfl rfl ?_)));show(if _ then _ else _)
 first
  | (rw[if_pos (by omega)];exact⟨rfl,rfl⟩)
  | (rw[if_neg (by omega),if_pos (by simp_all)];exact⟨rfl,by simp_all<;>rfl⟩)
  | (rw[if_neg (by omega),if_neg (by simp_all)];exact⟨rfl,v61,by simp_all<;>rfl⟩)
 exact bz;refine PS ?_
 iterate 5 refine UF ?_
 refine PS ?_;refine nx J8 (CN (qx J7 (ab λ_ J27=>sr λ_ J28=>P2 ?_)));refine FA 4 gz kM ?_;refine LA 0 Y4 ?_;refine aX ?_ ?_<;>intro h36;refine nx J28 (CY (sr λ_ J29=>PS ?_));refine nx J29 (ai (ae (WK [0,0] (au rfl rfl ?_))));show(if _ then _ else _)
 first
  | (rw[if_pos (by omega)];exact⟨rfl,rfl⟩)
  | (rw[if_neg (by omega),if_pos (by simp_all)];exact⟨rfl,by simp_all<;>rfl⟩)
  | (rw[if_neg (by omega),if_neg (by simp_all)];exact⟨rfl,v61,by simp_all<;>rfl⟩)
 refine nx J28 (CN (qx J27 (ab λ_ J30=>sr λ_ J31=>P2 ?_)));refine FA 2 gz kM ?_;refine LA 0 Y4 ?_;refine aX ?_ ?_<;>intro h40;refine nx J31 (CY (ad (P2 ?_)));refine FA 3 gz aQ ?_;refine LA 0 Y3 ?_;refine tp (iP rfl rfl rfl (bI (by omega) (by omega))) ?_;refine PS ?_;refine FA 3 gz aQ ?_;refine S0 0 aQ ?_;refine nx J30 (sr λ_ J32=>PS ?_);refine BV (((.int .i64 (at'))::List.replicate 64 (.int .u8 0)).toArray) ?_;refine XA E5 λb7=>?_
 refine bJ (vs:=((.int .i64 (at'))::List.replicate 64 (.int .u8 0))) (i:=0) (aa rfl) rfl rfl rfl rfl rfl l6 (by simp[Value.oneCell']) rfl rfl (Jf rfl) rfl rfl (nx J32 (sr λ_ J33=>FA 1 oK jy ?_));refine tp (nj rfl o5 k0 rfl) ?_;refine PS ?_;refine Lt (i:=0) (m:=bs.length) (news:=(eb bs)) (H':=[ah b7 (cT (at',eM bs)) 187,ah d [(.map (some m)),wv,(.bool (ar)),(.int .i64 (lf-1)),(.bool (dn))] 161,own wv (ws.length) (dC ws) 187 65]) (aa rfl) rfl rfl rfl gp k0 rfl rfl rfl rfl (λ_ _=>hF.src (λ_ h=>ez h)) (eU _) (by show 1+min bs.length 64≤65;omega) (yR (by omega)) rfl (nx J33 (ab λ_ J34=>D1 0 dB ?_));refine PD 0 ?_;refine PD 1 ?_;refine PD 2 ?_;refine FD 3 1 gz gv ?_;refine ta 5 rfl (aN (vs:=cT (at',eM bs)) rfl oK rfl l6 rfl (λ_ h=>h.2.1) (cd (dw (by omega))) (by rw[aV,aB (by rw[(cd (dw (by omega)))];exact aK _)])) ?_;refine cx [4,6] (by kernel_rfl) rfl (aE rfl ?_ ?_);refine LA 1 iL ?_;refine EN (AL 6 ?_);refine aU (cells:=(cT (at',eM bs)).toArray) (aa rfl) rfl rfl rfl iL l8 rfl rfl rfl (mm (cd (dw (by omega))) (by simp)) (λb60=>?_);change TL _ _ _ _ _ _ _ _ _ [ah b60 (cT (at',eM bs)) 187,ah b7 (cT (at',eM bs)) 187,ah d [(.map (some m)),wv,(.bool (ar)),(.int .i64 (lf-1)),(.bool (dn))] 161,own wv (ws.length) (dC ws) 187 65];refine EN (AL 7 ?_)
 refine cH (k:=3) (news:=cT (at',eM bs)) (nn':=(ws++[(at',eM bs)]).length) (xs':=dC (ws++[(at',eM bs)])) (aa rfl) rfl rfl rfl iL l8 rfl rfl rfl rfl rfl rfl (λ_ _=>ju (cd (dw (by omega))) (RO 0) (by rw[aV,aB (aK _)])) (ir _) (by simp only[maxLen];omega) (by omega) (by simp) (by simp[dC]) (λv61 ov61=>EN (PD 8 ?_));refine FD 9 1 gz gv ?_;refine AL 10 ?_;refine bD (i:=2) (aa rfl) rfl rfl rfl rfl ov61 gv rfl rfl (lb rfl) rfl rfl (EN (DN (ac J34 (sr λ_ J35=>PS ?_))));refine nx J35 (ai (WK [2,2] (au rfl rfl ?_)));show(if _ then _ else _)
 first
  | (rw[if_pos (by omega)];exact⟨rfl,rfl⟩)
  | (rw[if_neg (by omega),if_pos (by simp_all)];exact⟨rfl,by simp_all<;>rfl⟩)
  | (rw[if_neg (by omega),if_neg (by simp_all)];exact⟨rfl,v61,by simp_all<;>rfl⟩)
 refine aE rfl ?_ ?_;refine aU (cells:=(cT (at',eM bs)).toArray) (aa rfl) rfl rfl rfl iL l8 rfl rfl rfl (mm (cd (dw (by omega))) (by simp)) (λb60=>?_);change TL _ _ _ _ _ _ _ _ _ [ah b60 (cT (at',eM bs)) 187,ah b7 (cT (at',eM bs)) 187,ah d [(.map (some m)),wv,(.bool (ar)),(.int .i64 (lf-1)),(.bool (dn))] 161,own wv (ws.length) (dC ws) 187 65];refine EN (AL 4 ?_);refine LA 2 iL ?_;refine EN (AL 7 ?_);refine cH (k:=3) (news:=cT (at',eM bs)) (nn':=(ws++[(at',eM bs)]).length) (xs':=dC (ws++[(at',eM bs)])) (aa rfl) rfl rfl rfl iL l8 rfl rfl rfl rfl rfl rfl (λ_ _=>ju (cd (dw (by omega))) (RO 0) (by rw[aV,aB (aK _)])) (ir _) (by simp only[maxLen];omega) (by omega) (by simp) (by simp[dC]) (λv61 ov61=>EN (PD 8 ?_));refine FD 9 1 gz gv ?_;refine AL 10 ?_;refine bD (i:=2) (aa rfl) rfl rfl rfl rfl ov61 gv rfl rfl (lb rfl) rfl rfl (EN (DN (ac J34 (sr λ_ J36=>PS ?_))));refine nx J36 (ai (WK [2,2] (au rfl rfl ?_)));show(if _ then _ else _)
 first
  | (rw[if_pos (by omega)];exact⟨rfl,rfl⟩)
  | (rw[if_neg (by omega),if_pos (by simp_all)];exact⟨rfl,by simp_all<;>rfl⟩)
  | (rw[if_neg (by omega),if_neg (by simp_all)];exact⟨rfl,v61,by simp_all<;>rfl⟩)
 exact bz;refine nx J31 (CN (qx J30 (sr λ_ J37=>PS ?_)));refine BV (((.int .i64 (at'))::List.replicate 64 (.int .u8 0)).toArray) ?_;refine XA E5 λb7=>?_
 refine bJ (vs:=((.int .i64 (at'))::List.replicate 64 (.int .u8 0))) (i:=0) (aa rfl) rfl rfl rfl rfl rfl l6 (by simp[Value.oneCell']) rfl rfl (Jf rfl) rfl rfl (nx J37 (sr λ_ J38=>FA 1 oK jy ?_));refine tp (nj rfl o5 k0 rfl) ?_;refine PS ?_;refine Lt (i:=0) (m:=bs.length) (news:=(eb bs)) (H':=[ah b7 (cT (at',eM bs)) 187,ah d [(.map (some m)),wv,(.bool (ar)),(.int .i64 (lf)),(.bool (dn))] 161,own wv (ws.length) (dC ws) 187 65]) (aa rfl) rfl rfl rfl gp k0 rfl rfl rfl rfl (λ_ _=>hF.src (λ_ h=>ez h)) (eU _) (by show 1+min bs.length 64≤65;omega) (yR (by omega)) rfl (nx J38 (ab λ_ J39=>D1 0 dB ?_));refine PD 0 ?_;refine PD 1 ?_;refine PD 2 ?_;refine FD 3 1 gz gv ?_;refine ta 5 rfl (aN (vs:=cT (at',eM bs)) rfl oK rfl l6 rfl (λ_ h=>h.2.1) (cd (dw (by omega))) (by rw[aV,aB (by rw[(cd (dw (by omega)))];exact aK _)])) ?_;refine cx [4,6] (by kernel_rfl) rfl (aE rfl ?_ ?_);refine LA 1 iL ?_;refine EN (AL 6 ?_);refine aU (cells:=(cT (at',eM bs)).toArray) (aa rfl) rfl rfl rfl iL l8 rfl rfl rfl (mm (cd (dw (by omega))) (by simp)) (λb60=>?_);change TL _ _ _ _ _ _ _ _ _ [ah b60 (cT (at',eM bs)) 187,ah b7 (cT (at',eM bs)) 187,ah d [(.map (some m)),wv,(.bool (ar)),(.int .i64 (lf)),(.bool (dn))] 161,own wv (ws.length) (dC ws) 187 65];refine EN (AL 7 ?_)
 refine cH (k:=3) (news:=cT (at',eM bs)) (nn':=(ws++[(at',eM bs)]).length) (xs':=dC (ws++[(at',eM bs)])) (aa rfl) rfl rfl rfl iL l8 rfl rfl rfl rfl rfl rfl (λ_ _=>ju (cd (dw (by omega))) (RO 0) (by rw[aV,aB (aK _)])) (ir _) (by simp only[maxLen];omega) (by omega) (by simp) (by simp[dC]) (λv61 ov61=>EN (PD 8 ?_));refine FD 9 1 gz gv ?_;refine AL 10 ?_;refine bD (i:=2) (aa rfl) rfl rfl rfl rfl ov61 gv rfl rfl (lb rfl) rfl rfl (EN (DN (ac J39 (sr λ_ J40=>PS ?_))));refine nx J40 (ai (WK [2,2] (au rfl rfl ?_)));show(if _ then _ else _)
 first
  | (rw[if_pos (by omega)];exact⟨rfl,rfl⟩)
  | (rw[if_neg (by omega),if_pos (by simp_all)];exact⟨rfl,by simp_all<;>rfl⟩)
  | (rw[if_neg (by omega),if_neg (by simp_all)];exact⟨rfl,v61,by simp_all<;>rfl⟩)
 refine aE rfl ?_ ?_;refine aU (cells:=(cT (at',eM bs)).toArray) (aa rfl) rfl rfl rfl iL l8 rfl rfl rfl (mm (cd (dw (by omega))) (by simp)) (λb60=>?_);change TL _ _ _ _ _ _ _ _ _ [ah b60 (cT (at',eM bs)) 187,ah b7 (cT (at',eM bs)) 187,ah d [(.map (some m)),wv,(.bool (ar)),(.int .i64 (lf)),(.bool (dn))] 161,own wv (ws.length) (dC ws) 187 65];refine EN (AL 4 ?_);refine LA 2 iL ?_;refine EN (AL 7 ?_);refine cH (k:=3) (news:=cT (at',eM bs)) (nn':=(ws++[(at',eM bs)]).length) (xs':=dC (ws++[(at',eM bs)])) (aa rfl) rfl rfl rfl iL l8 rfl rfl rfl rfl rfl rfl (λ_ _=>ju (cd (dw (by omega))) (RO 0) (by rw[aV,aB (aK _)])) (ir _) (by simp only[maxLen];omega) (by omega) (by simp) (by simp[dC]) (λv61 ov61=>EN (PD 8 ?_));refine FD 9 1 gz gv ?_;refine AL 10 ?_;refine bD (i:=2) (aa rfl) rfl rfl rfl rfl ov61 gv rfl rfl (lb rfl) rfl rfl (EN (DN (ac J39 (sr λ_ J41=>PS ?_))));refine nx J41 (ai (WK [2,2] (au rfl rfl ?_)));show(if _ then _ else _)
 first
  | (rw[if_pos (by omega)];exact⟨rfl,rfl⟩)
  | (rw[if_neg (by omega),if_pos (by simp_all)];exact⟨rfl,by simp_all<;>rfl⟩)
  | (rw[if_neg (by omega),if_neg (by simp_all)];exact⟨rfl,v61,by simp_all<;>rfl⟩)
 exact bz
theorem tB(d m:Nat)(wv:Value)(ar:Bool)(lf:Int):
 DT 71 #[(.pointer (some ⟨d,0,none⟩))] T0 [ah d [(.map (some m)),wv,(.bool (ar)),(.int .i64 (lf)),(.bool true)] 161] (RI (.int .i64 4) [ah d [(.map (some m)),wv,(.bool (ar)),(.int .i64 (lf)),(.bool true)] 161]):=by
 refine BD 28 Tryz.func71 rfl rfl rfl λw0 F hF=>sr λ_ J1=>PS ?_
 refine nx J1 (ab λ_ J2=>sr λ_ J3=>P2 ?_);refine FA 4 gz kM ?_;refine LA 0 Y4 ?_;refine nx J3 (CY (sr λ_ J4=>PS ?_));exact nx J4 (ai (ae (WK [0] (au rfl rfl ⟨rfl,rfl⟩))))
theorem wI(d m:Nat)(wv:Value)(s ws:fA)(ar:Bool)(lf:Int)(hw:Whole ws):
 DT 71 #[(.pointer (some ⟨d,0,none⟩))] T0 [ah d [(.map (some m)),wv,(.bool (ar)),(.int .i64 (lf)),(.bool false)] 161,jJ m (qW s),own wv (ws.length) (dC ws) 187 65] (RI (.int .i64 0) [ah d [(.map (some m)),(.slice none 0 0),(.bool (ar)),(.int .i64 (lf)),(.bool false)] 161,jJ m (qW (Bw s ws ws.length)),own (.slice none 0 0) 0 [] 187 65]):=by
 refine BD 28 Tryz.func71 rfl rfl rfl λw0 F hF=>sr λ_ J1=>ib 2 rfl rfl (λhwl _=>PS ?_)
 refine nx J1 (ab λ_ J2=>sr λ_ J3=>P2 ?_);refine FA 4 gz kM ?_;refine LA 0 Y4 ?_;refine nx J3 (CN (qx J2 (ab λ_ J4=>sr λ_ J5=>P2 ?_)));refine FA 1 gz gv ?_;refine LA 0 iL ?_;refine tp (dF rfl iL rfl hwl) ?_;refine PS ?_;refine nx J5 (aq ?_)
 refine bp (α:=(Nat)×(fA)) (λ⟨k,s'⟩=>k≤ws.length∧s'=Bw s ws k) (λ⟨k,s'⟩=>[(0,(.pointer (some ⟨d,0,none⟩))),(2,(.int .i64 0)),(12,wv),(13,(.int .i64 (((ws.length:Nat):Int)))),(14,(.int .i64 (((k:Nat):Int))))]) (λ⟨k,s'⟩=>[ah d [(.map (some m)),wv,(.bool (ar)),(.int .i64 (lf)),(.bool false)] 161,jJ m (qW s'),own wv (ws.length) (dC ws) 187 65]) (λ⟨k,s'⟩=>ws.length-k) (0,s)
  ⟨aO _,rfl⟩ SB
  (λ_ s=>s) (λ⟨k,s'⟩ hinv=>?_)
 obtain⟨hk,hs'⟩:=hinv;refine sr λ_ J6=>PS ?_
 refine an ?_ ?_<;>intro h15;refine jO 2 rfl rfl (by omega) (λg cap hv hcap=>nx J6 (ab λ_ J7=>CY (qx J7 (ab λ_ J8=>aq (sr λ_ J9=>tp (bT (r:=k*65) hv rfl iL l6 rfl rfl (by omega) (by omega) (by omega)) ?_)))));refine tp (OB (vs:=cT (kJ ws k)) rfl oK rfl l6 rfl (fZ 2 rfl hv rfl) (cd (dK hw (by omega))) (p5 hw (by omega))) ?_;refine XA E5 λb4=>?_
 refine bJ (vs:=cT (kJ ws k)) (i:=0) (aa rfl) rfl rfl rfl rfl rfl (by rw[cd (dK hw (by omega))];exact l6) (ir _) rfl rfl (by rw[cd (dK hw (by omega))];exact aK _) (fD (Eq.trans (rfl:_=65) (by rw[cd (dK hw (by omega))]:(cT (kJ ws k)).length=65).symm)) rfl (nx J9 (ad (PS ?_)));refine FA 0 oK aQ ?_;refine LA 0 Y3 ?_;refine FA 1 oK jy ?_;refine tp (aN (vs:=eb (kJ ws k).2) rfl o5 rfl jy rfl (RO 0) (by rw[a8];exact dK hw (by omega)) (uZ (dK hw (by omega)))) ?_;refine CR HC (oG d m wv s' ar false lf ((kJ ws k).1) (kJ ws k).2 (by exact dK hw (by omega))) (SM [1,1]) λvR HR hR=>?_
 subst hR;refine ap (af (ac J8 (ad (AD ?_))));refine PS ?_;refine ap ?_
 exact aI ((k+1,nJ s' (kJ ws k).1 (kJ ws k).2):(Nat)×(fA)) ⟨by omega,by rw[hs'];rfl⟩ (by show ws.length- (k+1)<ws.length-k;omega)
  SB
  (λ_ s=>ak [0,0,1] rfl s)
 refine nx J6 (ab λ_ J10=>CN (aW (az (az (bm (ac J4 (sr λ_ J11=>P2 ?_)))))));refine FA 1 gz gv ?_;refine S0 0 gv ?_;refine nx J11 (sr λ_ J12=>PS ?_);refine nx J12 (ai (aF (H':=[ah d [(.map (some m)),(.slice none 0 0),(.bool (ar)),(.int .i64 (lf)),(.bool false)] 161,jJ m (qW s'),own (.slice none 0 0) 0 [] 187 65]) (di _) (λ_ s=>eg (List.Perm.trans (List.Perm.swap _ _ _) (List.Perm.cons _ (List.Perm.swap _ _ _))) (gC 187 65 (ak [0,0] rfl s))) (au rfl rfl ?_)));obtain rfl:k=ws.length:=by omega
 subst hs';exact⟨rfl,rfl⟩
theorem zQ(d m:Nat)(wv:Value)(s ws:fA)(ar dn:Bool)(lf at':Int)(hs2:Whole s)(hw:Whole ws)(hb:ws.length≤1000000000):
 DT 130 #[(.pointer (some ⟨d,0,none⟩)),(.int .i64 (at'))] T0 [ah d [(.map (some m)),wv,(.bool (ar)),(.int .i64 (lf)),(.bool (dn))] 161,jJ m (qW s),own wv (ws.length) (dC ws) 187 65] (RI (A0 (iX s ws at' ws.length)) [ah d [(.map (some m)),wv,(.bool (ar)),(.int .i64 (lf)),(.bool (dn))] 161,jJ m (qW s),own wv (ws.length) (dC ws) 187 65]):=by
 refine BD 40 Tryz.func130 rfl rfl rfl λw0 F hF=>sr λ_ J1=>ib 2 rfl rfl (λhwl _=>XA Cu λb4=>?_)
 refine nx J1 (ab λ_ J2=>sr λ_ J3=>P2 ?_);refine FA 1 gz gv ?_;refine LA 1 iL ?_;refine tp (dF rfl iL rfl hwl) ?_;refine tp (iP rfl rfl rfl (bI (by omega) (by omega))) ?_;refine PS ?_;refine nx J3 (aq ?_)
 refine bp (α:=(Int)) (λp=> -1≤p∧p<ws.length∧iX s ws at' (p+1).toNat=iX s ws at' ws.length) (λp=>[(0,(.pointer (some ⟨d,0,none⟩))),(1,(.int .i64 (at'))),(4,(.pointer (some ⟨b4,0,none⟩))),(5,(.int .i64 (p)))]) (λp=>[ah b4 [(.int .u8 0),(.int .u8 0),(.int .u8 0),(.int .u8 0),(.int .u8 0),(.int .u8 0),(.int .u8 0),(.int .u8 0),(.int .u8 0),(.int .u8 0),(.int .u8 0),(.int .u8 0),(.int .u8 0),(.int .u8 0),(.int .u8 0),(.int .u8 0),(.int .u8 0),(.int .u8 0),(.int .u8 0),(.int .u8 0),(.int .u8 0),(.int .u8 0),(.int .u8 0),(.int .u8 0),(.int .u8 0),(.int .u8 0),(.int .u8 0),(.int .u8 0),(.int .u8 0),(.int .u8 0),(.int .u8 0),(.int .u8 0),(.int .u8 0),(.int .u8 0),(.int .u8 0),(.int .u8 0),(.int .u8 0),(.int .u8 0),(.int .u8 0),(.int .u8 0),(.int .u8 0),(.int .u8 0),(.int .u8 0),(.int .u8 0),(.int .u8 0),(.int .u8 0),(.int .u8 0),(.int .u8 0),(.int .u8 0),(.int .u8 0),(.int .u8 0),(.int .u8 0),(.int .u8 0),(.int .u8 0),(.int .u8 0),(.int .u8 0),(.int .u8 0),(.int .u8 0),(.int .u8 0),(.int .u8 0),(.int .u8 0),(.int .u8 0),(.int .u8 0),(.int .u8 0)] 128,ah d [(.map (some m)),wv,(.bool (ar)),(.int .i64 (lf)),(.bool (dn))] 161,jJ m (qW s),own wv (ws.length) (dC ws) 187 65]) (λp=>(p+1).toNat) (((ws.length:Nat):Int)-1)
  ⟨by omega,by omega,by congr 1;omega⟩ SB
  (λ_ s=>s) (λp hinv=>?_)
 obtain⟨hp1,hp2,hp3⟩:=hinv;refine ab λ_ J4=>sr λ_ J5=>P2 ?_
 refine an ?_ ?_<;>intro h13;refine jO 3 rfl rfl (by omega) (λg cap hv hcap=>nx J5 (CY (qx J4 (ab λ_ J6=>aq (sr λ_ J7=>P2 ?_)))));refine FA 1 gz gv ?_;refine LA 1 iL ?_;refine PS ?_;refine tp (bT (r:=p.toNat*65) hv rfl iL l6 rfl rfl (by omega) (by omega) (by omega)) ?_;refine tp (aY (r:=p.toNat*65) rfl oK rfl aQ rfl rfl) ?_;refine tp (c7 (v:=(.int .i64 ((kJ ws p.toNat).1))) rfl Y3 rfl rfl (fZ 3 rfl hv rfl) (Fa hw (by omega))) ?_;refine P2 ?_;refine an ?_ ?_<;>intro h25;refine nx J7 (CY (sr λ_ J8=>P2 ?_));refine FA 1 gz gv ?_;refine LA 1 iL ?_;refine PS ?_;refine tp (bT (r:=p.toNat*65) hv rfl iL l6 rfl rfl (by omega) (by omega) (by omega)) ?_;refine tp (aY (r:=p.toNat*65+1) rfl oK rfl jy rfl rfl) ?_;refine tp (OB (vs:=eb (kJ ws p.toNat).2) rfl o5 rfl jy rfl (fZ 3 rfl hv rfl) (by rw[a8];exact dK hw (by omega)) (E9 hw (by omega))) ?_;refine bJ (vs:=eb (kJ ws p.toNat).2) (i:=0) (aa rfl) rfl rfl rfl rfl rfl (by rw[a8,dK hw (by omega)];exact jy) (eU _) rfl rfl (by rw[a8,dK hw (by omega)];exact aK _) (fD (Eq.trans (rfl:_=64) (by rw[a8,dK hw (by omega)]:(eb (kJ ws p.toNat).2).length=64).symm)) rfl (nx J8 (ai (aH (ae (ae (aH (ae (xF (H':=[ah d [(.map (some m)),wv,(.bool (ar)),(.int .i64 (lf)),(.bool (dn))] 161,jJ m (qW s),own wv (ws.length) (dC ws) 187 65]) rfl rfl o5 rfl jy (RO 0) (by rw[a8];exact dK hw (by omega)) (λ_ s=>ak [1,1,1] rfl s) ?_))))))));have e:=FK (s:=s) h25
 rw[show p.toNat+1=(p+1).toNat by omega,hp3]at e;exact⟨by rw[e];rfl,rfl⟩;refine nx J7 (CN (aR (af (ac J6 (ad (PS ?_))))));refine tp (iP rfl rfl rfl (bI (by omega) (by omega))) ?_;refine PS ?_;refine ap ?_
 exact aI ((p-1):(Int)) ⟨by omega,by omega,by rw[←hp3,show(p+1).toNat=p.toNat+1 by omega,C9 h25];congr 1;omega⟩ (by show(p-1+1).toNat< (p+1).toNat;omega)
  SB
  (λ_ s=>s)
 refine nx J5 (CN (aW (az (az (bm (ac J2 (sr λ_ J9=>P2 ?_)))))));refine FA 0 gz AB ?_;refine LA 1 xC ?_;refine PS ?_;refine tp (PV.lookup rfl xC Y3 Cu rfl rfl (RdM.own 2 rfl rfl) (wu _ _)) ?_;refine bJ (vs:=eb (iy s at')) (i:=0) (aa rfl) rfl rfl rfl rfl rfl (by rw[a8,ct hs2];exact jy) (eU _) rfl rfl (by rw[a8,ct hs2];exact aK _) (fD (Eq.trans (rfl:_=64) (by rw[a8,ct hs2]:(eb (iy s at')).length=64).symm)) rfl (nx J9 (ai (xF (H':=[ah d [(.map (some m)),wv,(.bool (ar)),(.int .i64 (lf)),(.bool (dn))] 161,jJ m (qW s),own wv (ws.length) (dC ws) 187 65]) rfl rfl o5 rfl jy (RO 0) (by rw[a8];exact ct hs2 _) (λ_ s=>ak [1,1,1] rfl s) ?_)));rw[show(p+1).toNat=0 by omega]at hp3;exact⟨by rw[←hp3];rfl,rfl⟩
theorem xv(d m:Nat)(wv:Value)(s ws:fA)(ar dn:Bool)(lf mask torn n:Int)(hs1:Whole s)(hw:Whole ws):
 DT 62 #[(.pointer (some ⟨d,0,none⟩)),(.int .i64 (mask)),(.int .i64 (torn)),(.int .i64 (n))] T0 [ah d [(.map (some m)),wv,(.bool (ar)),(.int .i64 (lf)),(.bool (dn))] 161,jJ m (qW s),own wv (ws.length) (dC ws) 187 65] (dm (λ_ H=>H=[ah d [(.map (some m)),(.slice none 0 0),(.bool false),(.int .i64 0),(.bool false)] 161,jJ m (qW (mT mask torn (pQ n) s ws ws.length)),own (.slice none 0 0) 0 [] 187 65])):=by
 refine BD 70 Tryz.func62 rfl rfl rfl λw0 F hF=>sr λ_ J1=>ib 2 rfl rfl (λhwl _=>PS ?_)
 refine tp (xL rfl rfl rfl) ?_;refine tp (Oz (v':=(.int .i64 (((pQ n:Nat):Int)))) (PV.minI rfl rfl rfl) (congrArg (Value.int .i64) (Jp n))) ?_;refine PS ?_;refine nx J1 (ab λ_ J2=>sr λ_ J3=>P2 ?_);refine FA 1 gz gv ?_;refine LA 0 iL ?_;refine tp (dF rfl iL rfl hwl) ?_;refine PS ?_;refine nx J3 (aq ?_)
 refine bp (α:=(Nat)×(fA)) (λ⟨k,s'⟩=>k≤ws.length∧s'=mT mask torn (pQ n) s ws k) (λ⟨k,s'⟩=>[(0,(.pointer (some ⟨d,0,none⟩))),(1,(.int .i64 (mask))),(2,(.int .i64 (torn))),(3,(.int .i64 (((pQ n:Nat):Int)))),(17,wv),(18,(.int .i64 (((ws.length:Nat):Int)))),(19,(.int .i64 (((k:Nat):Int))))]) (λ⟨k,s'⟩=>[ah d [(.map (some m)),wv,(.bool (ar)),(.int .i64 (lf)),(.bool (dn))] 161,jJ m (qW s'),own wv (ws.length) (dC ws) 187 65]) (λ⟨k,s'⟩=>ws.length-k) (0,s)
  ⟨aO _,rfl⟩ SB
  (λ_ s=>s) (λ⟨k,s'⟩ hinv=>?_)
 obtain⟨hk,hs'⟩:=hinv;have hs2:Whole s':=by rw[hs'];exact hs1.crash hw k hk
 have hcn:=sG n;refine sr λ_ J4=>PS ?_
 refine an ?_ ?_<;>intro h20;refine jO 2 rfl rfl (by omega) (λg cap hv hcap=>nx J4 (ab λ_ J5=>CY (qx J5 (ab λ_ J6=>aq (sr λ_ J7=>PS ?_)))));refine tp (bT (r:=k*65) hv rfl iL l6 rfl rfl (by omega) (by omega) (by omega)) ?_;refine tp (OB (vs:=cT (kJ ws k)) rfl oK rfl l6 rfl (fZ 2 rfl hv rfl) (cd (dK hw (by omega))) (p5 hw (by omega))) ?_;refine XA E5 λb9=>?_
 refine PS ?_;refine bJ (vs:=cT (kJ ws k)) (i:=0) (aa rfl) rfl rfl rfl rfl rfl (by rw[cd (dK hw (by omega))];exact l6) (ir _) rfl rfl (by rw[cd (dK hw (by omega))];exact aK _) (fD (Eq.trans (rfl:_=65) (by rw[cd (dK hw (by omega))]:(cT (kJ ws k)).length=65).symm)) rfl (nx J7 (sr λ_ J8=>P3 ?_));refine an ?_ ?_<;>intro h26;refine nx J8 (CY (ab λ_ J9=>n8 (λw=>Frm F w∧w.heap[d]?=some (.cells ([(.map (some m)),wv,(.bool (ar)),(.int .i64 (lf)),(.bool (dn))]).toArray 161 (0,0))∧Hm m (qW s') w∧w.heap[b9]?=some (.cells (cT (kJ ws k)).toArray 187 (0,0))∧True) dB rfl (λ_ s=>⟨ez s,s.block 1 (lb rfl) rfl,s.map 2 rfl rfl,s.block 0 (lb rfl) rfl,trivial⟩) (PD 0 ?_)));refine PD 1 ?_;refine FD 2 0 gz AB ?_;refine LX 3 xC (.map (some m)) ?_ (hc:=by exact rfl);refine FD 4 0 oK aQ ?_;refine LX 5 Y3 (.int .i64 ((kJ ws k).1)) ?_ (hc:=by exact rfl);refine ta 6 rfl (PV.lookup rfl xC Y3 Cu rfl rfl (λ_ h=>h.2.2.1) (wu _ _)) ?_;refine AL 7 ?_;refine XA Cu λb10=>?_
 refine ap (mZ (λ_ s=>⟨ez s,s.block 2 (lb rfl) rfl,s.map 3 rfl rfl,s.block 1 (lb rfl) rfl,trivial⟩) (AL 8 ?_));refine bJ (vs:=eb (iy s' ((kJ ws k).1))) (i:=0) (aa rfl) rfl rfl rfl rfl rfl (by rw[a8,ct hs2];exact jy) (eU _) rfl rfl (by rw[a8,ct hs2];exact aK _) (fD (Eq.trans (rfl:_=64) (by rw[a8,ct hs2]:(eb (iy s' ((kJ ws k).1))).length=64).symm)) rfl (ap (mZ (λ_ s=>⟨ez s,s.block 2 (lb rfl) rfl,s.map 3 rfl rfl,s.block 1 (lb rfl) rfl,trivial⟩) (DN (ac J9 (ab λ_ J10=>D1 1 dB ?_)))));refine PD 0 ?_;refine ta 1 rfl (Ot (k:=pQ n) rfl o5 k0 rfl rfl (by omega) (by omega) rfl) ?_;refine FD 2 1 oK jy ?_;refine PD 3 ?_;refine ta 4 rfl (Ot (k:=pQ n) rfl o5 k0 rfl rfl (by omega) (by omega) rfl) ?_;refine AL 5 ?_;refine Lt (i:=0) (m:=pQ n) (news:=((eb (kJ ws k).2).take (pQ n))) (H':=[ah b10 (eb (rN (iy s' ((kJ ws k).1)) (kJ ws k).2 (pQ n))) 128,ah b9 (cT (kJ ws k)) 187,ah d [(.map (some m)),wv,(.bool (ar)),(.int .i64 (lf)),(.bool (dn))] 161,jJ m (qW s'),own wv (ws.length) (dC ws) 187 65]) (aa rfl) rfl rfl rfl gp k0 rfl rfl rfl rfl (λ_ _=>ju (by rw[bn,a8,dK hw (by omega)];have:=sG n;omega) (RO 1) (by rw[bn,a8,dK hw (by omega)];exact As (dK hw (by omega)) (sG n))) (λu hu=>eU _ u (lM hu)) (by rw[a8,ct hs2];have:=sG n;omega) (Fg (sG n) (ct hs2 _) (dK hw (by omega)) (by omega)) rfl (EN (DN (ac J10 (ad (PS ?_)))));refine FA 0 oK aQ ?_;refine LA 1 Y3 ?_
 refine tp (aN (vs:=eb (rN (iy s' ((kJ ws k).1)) (kJ ws k).2 (pQ n))) rfl o5 rfl jy rfl (RO 0) (by rw[a8];exact p6 (ct hs2 _) (dK hw (by omega))) (ve (by rw[a8];exact p6 (ct hs2 _) (dK hw (by omega))))) ?_;refine CR HC (oG d m wv s' ar (dn) lf ((kJ ws k).1) (rN (iy s' ((kJ ws k).1)) (kJ ws k).2 (pQ n)) (by exact p6 (ct hs2 _) (dK hw (by omega)))) (SM [2,2]) λvR HR hR=>?_
 subst hR;refine ap (af (ac J6 (ad (AD ?_))));refine PS ?_;refine ap ?_
 exact aI ((k+1,nJ s' (kJ ws k).1 (rN (iy s' (kJ ws k).1) (kJ ws k).2 (pQ n))):(Nat)×(fA)) ⟨by omega,by rw[hs',mT,mA,if_pos h26]⟩ (by show ws.length- (k+1)<ws.length-k;omega)
  SB
  (λ_ s=>ak [0,0,2] rfl s)
 refine nx J8 (CN (sr λ_ J11=>P2 ?_));refine tp (PV.rem (r:=((k%32:Nat):Int)) rfl rfl rfl (by omega) (by rw[show(32:Int)=((32:Nat):Int)from rfl,←Int.ofNat_tmod])) ?_;refine tp (lJ (r:=mask.fdiv (2^ (k%32))) rfl rfl rfl (by omega) (by congr 2;show min ((k%32:Nat):Int).toNat 64=k%32;omega)) ?_;refine tp (uK (r:=mask.fdiv (2^ (k%32))%2) rfl rfl rfl (Oh _)) ?_;refine PS ?_;refine an ?_ ?_<;>intro h50;refine nx J11 (CY (ad (PS ?_)));refine FA 0 oK aQ ?_;refine LA 0 Y3 ?_;refine FA 1 oK jy ?_;refine tp (aN (vs:=eb (kJ ws k).2) rfl o5 rfl jy rfl (RO 0) (by rw[a8];exact dK hw (by omega)) (uZ (dK hw (by omega)))) ?_;refine CR HC (oG d m wv s' ar (dn) lf ((kJ ws k).1) (kJ ws k).2 (by exact dK hw (by omega))) (SM [1,1]) λvR HR hR=>?_
 subst hR;refine ap (af (ac J6 (ad (AD ?_))));refine PS ?_;refine ap ?_
 exact aI ((k+1,nJ s' (kJ ws k).1 (kJ ws k).2):(Nat)×(fA)) ⟨by omega,by rw[hs',mT,mA,if_neg h26,if_pos h50]⟩ (by show ws.length- (k+1)<ws.length-k;omega)
  SB
  (λ_ s=>ak [0,0,1] rfl s)
 refine nx J11 (CN (aR (af (ac J6 (ad (AD ?_))))));refine PS ?_;refine ap ?_
 exact aI ((k+1,s'):(Nat)×(fA)) ⟨by omega,by rw[mT,mA,if_neg h26,if_neg h50];exact hs'⟩ (by show ws.length- (k+1)<ws.length-k;omega)
  SB
  (λ_ s=>ak [1,1,1] rfl s)
 refine nx J4 (ab λ_ J12=>CN (aW (az (az (bm (ac J2 (ad ?_)))))))
 iterate 5 refine PS ?_
 refine FA 1 gz gv ?_;refine S0 0 gv ?_;refine PS ?_;refine FA 2 gz kM ?_;refine S0 0 kM ?_;refine PS ?_;refine FA 3 gz aQ ?_;refine S0 0 aQ ?_;refine PS ?_;refine FA 4 gz kM ?_;refine S0 0 kM ?_;refine ap (aF (H':=[ah d [(.map (some m)),(.slice none 0 0),(.bool false),(.int .i64 0),(.bool false)] 161,jJ m (qW s'),own (.slice none 0 0) 0 [] 187 65]) (di _) (λ_ s=>eg (List.Perm.trans (List.Perm.swap _ _ _) (List.Perm.cons _ (List.Perm.swap _ _ _))) (gC 187 65 (ak [0,0] rfl s))) (bA rfl ?_));obtain rfl:k=ws.length:=by omega
 subst hs';exact rfl
theorem JJ:Tryz.prog.eqGuardType Tryz.prog.depth 128=false:=by kernel_rfl
theorem JH:Tryz.prog.keyTypeAt 2 128=true:=by kernel_rfl
theorem JK:kP Tryz.prog 2 128=some (List.replicate 64 (some .u8)):=by kernel_rfl
theorem JM:Cd Tryz.prog 128=true:=by kernel_rfl
theorem JL:Tryz.prog.cellsOf 128=64:=by kernel_rfl
abbrev dk(d:Nat)(D:DS):HP:=M0 161 187 d D
theorem ES(d:Nat)(D:DS):DT 57 #[(.pointer (some ⟨d,0,none⟩))] T0 [dk d D] (RI (.bool D.dn) [dk d (D)]):=Leg.Does.pack (B:=[]) λ⟨m,wv⟩=>
 Leg.Does.withinR (zR d m wv D.ar D.dn D.lf) (B:=[jJ m (qW D.s),own wv D.ws.length (dC D.ws) 187 65]) (λ_ _ _ _=>trivial) (λ_ s=>s) (λv H h=>by
  obtain⟨rfl,rfl⟩:=h
  exact⟨_,λ_ s=>bj (H:=[]) (m,wv) (s),rfl,rfl⟩)
theorem Lh(d:Nat)(D:DS)(n:Int):DT 61 #[(.pointer (some ⟨d,0,none⟩)), .int .i64 n] T0 [dk d D] (dm (λv H=>True∧H=[dk d (D.arm n)])):=Leg.Does.pack (B:=[]) λ⟨m,wv⟩=>
 Leg.Does.withinR (BS d m wv D.ar D.dn D.lf n) (B:=[jJ m (qW D.s),own wv D.ws.length (dC D.ws) 187 65]) (λ_ _ _ _=>trivial) (λ_ s=>s) (λv H h=>by
  subst h
  exact⟨_,λ_ s=>bj (H:=[]) (m,wv) s,trivial,rfl⟩)
theorem Jl(d:Nat)(D:DS)(at':Int)(hD:D.Ok):DT 68 #[(.pointer (some ⟨d,0,none⟩)), .int .i64 at'] T0 [dk d D] (RI (A0 (iy D.s at')) [dk d (D)]):=Leg.Does.pack (B:=[]) λ⟨m,wv⟩=>
 Leg.Does.withinR (zP d m wv D.s D.ar D.dn D.lf at' hD.s) (B:=[own wv D.ws.length (dC D.ws) 187 65]) (λ_ _ _ _=>trivial) (λ_ s=>s) (λv H h=>by
  obtain⟨rfl,rfl⟩:=h
  exact⟨_,λ_ s=>bj (H:=[]) (m,wv) (s),rfl,rfl⟩)
theorem zT(d:Nat)(D:DS)(at':Int)(hD:D.Ok)(hb:D.ws.length≤1000000000):DT 130 #[(.pointer (some ⟨d,0,none⟩)), .int .i64 at'] T0 [dk d D] (RI (A0 (D.read at')) [dk d (D)]):=Leg.Does.pack (B:=[]) λ⟨m,wv⟩=>
 Leg.Does.withinR (zQ d m wv D.s D.ws D.ar D.dn D.lf at' hD.s hD.ws hb) (B:=[]) (λ_ _ _ _=>trivial) (λ_ s=>s) (λv H h=>by
  obtain⟨rfl,rfl⟩:=h
  exact⟨_,λ_ s=>bj (H:=[]) (m,wv) (s),rfl,rfl⟩)
theorem BY(d:Nat)(D:DS)(mask torn n:Int)(hD:D.Ok):DT 62 #[(.pointer (some ⟨d,0,none⟩)), .int .i64 mask, .int .i64 torn, .int .i64 n] T0 [dk d D] (dm (λv H=>True∧H=[dk d (D.crash mask torn n)])):=Leg.Does.pack (B:=[]) λ⟨m,wv⟩=>
 Leg.Does.withinR (xv d m wv D.s D.ws D.ar D.dn D.lf mask torn n hD.s hD.ws) (B:=[]) (λ_ _ _ _=>trivial) (λ_ s=>s) (λv H h=>by
  subst h
  exact⟨_,λ_ s=>bj (H:=[]) (m,(.slice none 0 0:Value)) s,trivial,rfl⟩)
theorem wJ(d:Nat)(D:DS)(at':Int)(x:Value)(bs:List UInt8)(hD:D.Ok)(hb:D.ws.length≤1000000000):DT 70 #[(.pointer (some ⟨d,0,none⟩)), .int .i64 at',x] (IsW x bs) [dk d D] (RI (.int .i64 (D.write at' bs).1) [dk d ((D.write at' bs).2)]):=Leg.Does.pack (B:=[]) λ⟨m,wv⟩=>
 Leg.Does.withinR (xu d m wv D.ws D.ar D.dn D.lf at' x bs hD.lf hb) (B:=[jJ m (qW D.s)]) (λ_ _ h d=>h.more d) (λ_ s=>aC [0,1] rfl s) (λv H h=>by
  unfold DS.write;replace h:(if at'<0∨2048≤at'∨64<bs.length then _ else _):=h;split at h<;>rename_i h1
  · rw[if_pos h1]
    obtain⟨rfl,rfl⟩:=h;exact⟨_,λ_ s=>bj (H:=[]) (m,wv) (aC [0,1] rfl s),rfl,rfl⟩
  · rw[if_neg h1]
    split at h<;>rename_i h2
    · rw[if_pos h2]
      obtain⟨rfl,rfl⟩:=h;exact⟨_,λ_ s=>bj (H:=[]) (m,wv) (aC [0,1] rfl s),rfl,rfl⟩
    · rw[if_neg h2]
      obtain⟨rfl,wv',rfl⟩:=h
      exact⟨_,λ_ s=>bj (H:=[]) (m,wv') (aC [0,1] rfl s),rfl,rfl⟩)
theorem zS(d:Nat)(D:DS)(hD:D.Ok):DT 71 #[(.pointer (some ⟨d,0,none⟩))] T0 [dk d D] (RI (.int .i64 D.sync.1) [dk d D.sync.2]):=by
 obtain⟨s,ws,ar,lf,dn⟩:=D;cases dn
 · exact Leg.Does.pack (B:=[]) λ⟨m,wv⟩=>Leg.Does.withinR (wI d m wv s ws ar lf hD.ws) (B:=[]) (λ_ _ _ _=>trivial) (λ_ s=>s) (λv H h=>by
    obtain⟨rfl,rfl⟩:=h
    exact⟨_,λ_ s=>bj (H:=[]) (m,(.slice none 0 0:Value)) s,rfl,rfl⟩)
 · exact Leg.Does.pack (B:=[]) λ⟨m,wv⟩=>Leg.Does.withinR (tB d m wv ar lf) (B:=[jJ m (qW s),own wv ws.length (dC ws) 187 65]) (λ_ _ _ _=>trivial) (λ_ s=>s) (λv H h=>by
    obtain⟨rfl,rfl⟩:=h
    exact⟨_,λ_ s=>bj (H:=[]) (m,wv) s,rfl,rfl⟩)
theorem DO:DT 54 #[] T0 [] (dm (λv H=>∃d,v= .pointer (some ⟨d,0,none⟩)∧H=[dk d DS.new])):=
 Leg.Does.withinR BR (B:=[]) (λ_ _ _ _=>trivial) (λ_ s=>s) (λv H h=>by
  obtain⟨d,m,rfl,rfl⟩:=h
  exact⟨_,λ_ s=>bj (H:=[]) (m,(.slice none 0 0:Value)) (eg (List.Perm.trans (List.Perm.swap _ _ _) (List.Perm.cons _ (List.Perm.swap _ _ _))) (gC 187 65 s)),d,rfl,rfl⟩)
end Go.Proofs.YtjblgopghhgflaaGreat
end
