/-
  Joined texts:what a statement's proof reaches.
-/
import Derived.Test.YtjblgopghhgflaaGreatPAO3
set_option maxHeartbeats 8000000
set_option maxRecDepth 100000
set_option linter.unusedSimpArgs false
set_option linter.unusedVariables false
section
namespace Wal
open Go Leg Codec Api Dsk
theorem tl{x y:Int}(k:Nat)(hx:0≤x)(hx2:x<2^k)(hy:0≤y)(h:x+y*2^k<4294967296):iz .u32 x (y*2^k)=x+y*2^k:=by
 obtain⟨a,rfl⟩:=Int.eq_ofNat_of_zero_le hx;obtain⟨b,rfl⟩:=Int.eq_ofNat_of_zero_le hy;have e2:((b:Nat):Int)*2^k=((b*2^k:Nat):Int):=by simp
 rw[e2]at h ⊢
 have ha:a<2^k:=by
  have:(((2:Nat)^k:Nat):Int)=(2:Int)^k:=by simp
  omega
 have hs:a+b*2^k<4294967296:=by omega
 have h1:(BitVec.ofInt 32 (a:Int)).toNat=a:=by rw[BitVec.toNat_ofInt];omega
 have h2:(BitVec.ofInt 32 ((b*2^k:Nat):Int)).toNat=b*2^k:=by
  rw[BitVec.toNat_ofInt];generalize b*2^k=q at*;omega
 have h3:a|||b*2^k=a+b*2^k:=by
  rw[Nat.or_comm,←Nat.shiftLeft_eq,←Nat.shiftLeft_add_eq_or_of_lt ha,lZ]
 show IntKind.u32.wrap (((BitVec.ofInt 32 (a:Int))||| (BitVec.ofInt 32 ((b*2^k:Nat):Int))).toNat:Nat)=_;rw[BitVec.toNat_or,h1,h2,h3];generalize b*2^k=q at*;rw[kj (by omega) (by omega)];omega
theorem FY{x y:Int}(k:Nat)(hx:0≤x)(hx2:x<2^k)(hy:0≤y)(h:x+y*2^k<9223372036854775808):iz .i64 (y*2^k) x=x+y*2^k:=by
 obtain⟨a,rfl⟩:=Int.eq_ofNat_of_zero_le hx;obtain⟨b,rfl⟩:=Int.eq_ofNat_of_zero_le hy;have e2:((b:Nat):Int)*2^k=((b*2^k:Nat):Int):=by simp
 rw[e2]at h ⊢
 have ha:a<2^k:=by
  have:(((2:Nat)^k:Nat):Int)=(2:Int)^k:=by simp
  omega
 have h1:(BitVec.ofInt 64 (a:Int)).toNat=a:=by rw[BitVec.toNat_ofInt];omega
 have h2:(BitVec.ofInt 64 ((b*2^k:Nat):Int)).toNat=b*2^k:=by
  rw[BitVec.toNat_ofInt];generalize b*2^k=q at*;omega
 have h3:b*2^k|||a=a+b*2^k:=by
  rw[←Nat.shiftLeft_eq,←Nat.shiftLeft_add_eq_or_of_lt ha,lZ]
 show IntKind.i64.wrap (((BitVec.ofInt 64 ((b*2^k:Nat):Int))||| (BitVec.ofInt 64 (a:Int))).toNat:Nat)=_;rw[BitVec.toNat_or,h1,h2,h3];generalize b*2^k=q at*;rw[bI (by omega) (by omega)];omega
theorem Fc(x:Int):0≤IntKind.u32.wrap x∧IntKind.u32.wrap x<4294967296:=by
 simp only[IntKind.wrap,IntKind.signed,IntKind.bits];simp;omega
theorem Al(a b:Int):0≤pe .u32 a b∧pe .u32 a b<4294967296:=Fc _
def r8(x:Int):UInt8:=UInt8.ofNat (x%256).toNat
theorem lR(x:Int):(((r8 x).toNat:Nat):Int)=x%256:=by
 have:(x%256).toNat<256:=by omega
 simp only[r8,UInt8.toNat_ofNat'];omega
theorem r8_wrap(x:Int):IntKind.u8.wrap x=(((r8 x).toNat:Nat):Int):=by
 rw[lR];simp only[IntKind.wrap,IntKind.signed,IntKind.bits];simp
def DU(r:Int):Int:=if sL .u32 r 1=1 then pe .u32 (r.fdiv 2) 3988292384 else r.fdiv 2
def mp(r:Int):Nat→Int
 |0=>r
 |k+1=>DU (mp r k)
def EV(r:Int)(c:UInt8):Int:=mp (pe .u32 r ((c.toNat:Nat):Int)) 8
def fk(r:Int)(bs:List UInt8):Int:=bs.foldl EV r
def fR(bs:List UInt8):Int:=pe .u32 4294967295 (fk 4294967295 bs)
theorem B1{r:Int}{bs:List UInt8}{k:Nat}(h:k<bs.length):fk r (bs.take (k+1))=EV (fk r (bs.take k)) (bs.getD k 0):=by
 rw[fk,fk,co h,eT,List.getD_eq_getElem?_getD,List.getElem?_eq_getElem h];rfl
theorem xw(r:Int)(a b:List UInt8):fk r (a++b)=fk (fk r a) b:=by simp[fk]
theorem B2{r:Int}{ps:List (List UInt8)}{k:Nat}(h:k<ps.length):fk r (ps.take (k+1)).flatten=fk (fk r (ps.take k).flatten) ps[k]:=by
 rw[co h,List.flatten_append,xw];simp
theorem B3(bs:List UInt8):0≤fR bs∧fR bs<4294967296:=Al _ _
def Od(r:Int):List UInt8:=[r8 r,r8 (r.fdiv 256),r8 (r.fdiv 65536),r8 (r.fdiv 16777216)]
def HO(a b c d:UInt8):Int:=
 iz .u32 (iz .u32 (iz .u32 ((a.toNat:Nat):Int) (IntKind.u32.wrap (((b.toNat:Nat):Int)*2^8))) (IntKind.u32.wrap (((c.toNat:Nat):Int)*2^16))) (IntKind.u32.wrap (((d.toNat:Nat):Int)*2^24))
theorem Je(a b c d:UInt8):HO a b c d=((a.toNat:Nat):Int)+((b.toNat:Nat):Int)*256+((c.toNat:Nat):Int)*65536+((d.toNat:Nat):Int)*16777216:=by
 have ha:=a.toNat_lt;have hb:=b.toNat_lt;have hc:=c.toNat_lt;have hd:=d.toNat_lt;unfold HO;generalize a.toNat=a at*;generalize b.toNat=b at*;generalize c.toNat=c at*;generalize d.toNat=d at*;rw[kj (x:=(b:Int)*2^8) (by omega) (by omega),kj (x:=(c:Int)*2^16) (by omega) (by omega),kj (x:=(d:Int)*2^24) (by omega) (by omega)];rw[tl 8 (by omega) (by omega) (by omega) (by omega),tl 16 (by omega) (by omega) (by omega) (by omega),tl 24 (by omega) (by omega) (by omega) (by omega)];omega
def pF(bs:List UInt8):List UInt8:=bs++Od (fR bs)
def mI(bs:List UInt8):Option (List UInt8):=
 if bs.length<4 then none
 else if fR (bs.take (bs.length-4))=HO ((bs.drop (bs.length-4)).getD 0 0) ((bs.drop (bs.length-4)).getD 1 0) ((bs.drop (bs.length-4)).getD 2 0) ((bs.drop (bs.length-4)).getD 3 0)then some (bs.take (bs.length-4))else none
theorem ky(bs:List UInt8):(pF bs).length=bs.length+4:=by simp[pF,Od]
theorem HN{r:Int}(h:0≤r∧r<4294967296):HO (r8 r) (r8 (r.fdiv 256)) (r8 (r.fdiv 65536)) (r8 (r.fdiv 16777216))=r:=by
 rw[Je,lR,lR,lR,lR,Int.fdiv_eq_ediv_of_nonneg _ (by decide),Int.fdiv_eq_ediv_of_nonneg _ (by decide),Int.fdiv_eq_ediv_of_nonneg _ (by decide)];omega
theorem qE(bs:List UInt8):mI (pF bs)=some bs:=by
 have hl:=ky bs;have e1:(pF bs).take (bs.length+4-4)=bs:=by rw[GH,pF];exact sQ
 have e2:(pF bs).drop (bs.length+4-4)=Od (fR bs):=by rw[GH,pF];exact Cm
 unfold mI;rw[hl,if_neg (by omega),e1,e2];exact if_pos (HN (B3 bs)).symm
theorem xZ{bs t:List UInt8}(h:mI bs=some t):t.length+4=bs.length:=by
 unfold mI at h;split at h
 · cases h
 · split at h
   · injection h with h;subst h;rw[bn];omega
   · cases h
def bu(n:Nat):Nat:=if n=0 then 1 else(n-1) / 52+1
theorem pG(n:Nat):0<bu n:=by unfold bu;split<;>omega
theorem vT{n:Nat}(h:n≤3000):bu n≤58:=by unfold bu;split<;>omega
theorem xm(n:Nat):n≤bu n*52:=by unfold bu;split<;>omega
def IF(n:Int):List UInt8:=[r8 (n.fdiv 16777216),r8 (n.fdiv 65536),r8 (n.fdiv 256),r8 n]
def GD(bs:List UInt8):Int:=bs.foldl (λh c=>iz .i64 (IntKind.i64.wrap (h*2^8)) ((c.toNat:Nat):Int)) 0
theorem Ih{bs:List UInt8}{k:Nat}(h:k<bs.length):GD (bs.take (k+1))=iz .i64 (IntKind.i64.wrap (GD (bs.take k)*2^8)) (((bs.getD k 0).toNat:Nat):Int):=by
 rw[GD,GD,co h,eT,List.getD_eq_getElem?_getD,List.getElem?_eq_getElem h];rfl
theorem uR{h:Int}(c:UInt8)(h0:0≤h)(h1:h<4294967296):iz .i64 (IntKind.i64.wrap (h*2^8)) ((c.toNat:Nat):Int)=h*256+((c.toNat:Nat):Int):=by
 have hc:=c.toNat_lt;generalize c.toNat=c at*;rw[bI (by omega) (by omega),FY 8 (by omega) (by omega) (by omega) (by omega)];omega
theorem Ii(a b c d:UInt8):GD [a,b,c,d]=((a.toNat:Nat):Int)*16777216+((b.toNat:Nat):Int)*65536+((c.toNat:Nat):Int)*256+((d.toNat:Nat):Int):=by
 have ha:=a.toNat_lt;have hb:=b.toNat_lt;have hc:=c.toNat_lt;have hd:=d.toNat_lt;simp only[GD,List.foldl_cons,List.foldl_nil];rw[uR a (by omega) (by omega),uR b (by omega) (by omega),uR c (by omega) (by omega),uR d (by omega) (by omega)];omega
theorem Jw{n:Int}(h0:0≤n)(h1:n<4294967296):GD (IF n)=n:=by
 rw[IF,Ii,lR,lR,lR,lR,Int.fdiv_eq_ediv_of_nonneg _ (by decide),Int.fdiv_eq_ediv_of_nonneg _ (by decide),Int.fdiv_eq_ediv_of_nonneg _ (by decide)];omega
def gl(b:List UInt8)(i:Nat):List UInt8:=(b.drop (i*52)).take 52
theorem ti(b:List UInt8)(i:Nat):(gl b i).length≤52:=by rw[gl,bn];omega
theorem I3{n k:Nat}(h:k<bu n):k*52≤n:=by unfold bu at h;split at h<;>omega
theorem I4(b:List UInt8)(k:Nat):((b.take (min ((k+1)*52) b.length)).drop (k*52))=gl b k:=by
 rw[gl,oe,fg,Nat.one_mul]
 by_cases q:k*52+52≤b.length
 · rw[Nat.min_eq_left q,cj]
 · rw[Nat.min_eq_right (by omega),aB (by rw[cz];omega),aB (by rw[cz];omega)]
theorem FV(b:List UInt8): ∀k,b.length≤k*52→((List.range k).map (gl b)).flatten=b:=by
 have key: ∀k,((List.range k).map (gl b)).flatten=b.take (k*52):=by
  intro k
  induction k with
  |zero=>simp
  |succ k ih=>
   rw[cR,cS,List.flatten_append,ih,fg,Nat.one_mul,List.take_add];simp[gl]
 intro k hk;rw[key,aB hk]
def jx(number:Int)(place all:Nat)(p:List UInt8):List UInt8:=IF number++([r8 (place:Int),r8 (all:Int),r8 (p.length:Int)]++(p++List.replicate (52-p.length) 0))
theorem jl{number:Int}{place all:Nat}{p:List UInt8}(h:p.length≤52):(jx number place all p).length=59:=by simp[jx,IF];omega
def pA(number:Int)(place all:Nat)(p:List UInt8):jP:=pF (jx number place all p)++[1]
theorem Fv{number:Int}{place all:Nat}{p:List UInt8}(h:p.length≤52):(pA number place all p).length=64:=by simp[pA,ky,jl h]
def cg(number:Int)(b:List UInt8):List jP:=(List.range (bu b.length)).map λi=>pA number i (bu b.length) (gl b i)
def mK(number:Int)(b:List UInt8)(k:Nat):List jP:=(List.range k).map λi=>pA number i (bu b.length) (gl b i)
theorem C0(number:Int)(b:List UInt8)(k:Nat):mK number b (k+1)=mK number b k++[pA number k (bu b.length) (gl b k)]:=by simp[mK,cR]
theorem x8(number:Int)(b:List UInt8)(k:Nat):(mK number b k).length=k:=by simp[mK]
theorem Fi{number:Int}{place all:Nat}{p:List UInt8}(h:p.length≤52):
 wr (eb (IF number++([r8 (place:Int),r8 (all:Int),r8 (p.length:Int)]++List.replicate 52 0))) 7 ((eb p).take (min p.length 52))=eb (jx number place all p):=by
 have e:(eb p).take (min p.length 52)=eb p:=aB (by rw[a8];omega);rw[e,wr,a8];have e2:(eb (IF number++([r8 (place:Int),r8 (all:Int),r8 (p.length:Int)]++List.replicate 52 0))).take 7=eb (IF number++[r8 (place:Int),r8 (all:Int),r8 (p.length:Int)]):=rfl
 have e3:(eb (IF number++([r8 (place:Int),r8 (all:Int),r8 (p.length:Int)]++List.replicate 52 0))).drop (7+p.length)=eb (List.replicate (52-p.length) 0):=by
  rw[←io];have:(eb (IF number++([r8 (place:Int),r8 (all:Int),r8 (p.length:Int)]++List.replicate 52 0))).drop 7=eb (List.replicate 52 0):=rfl;rw[this,eb,eb,←kK,List.drop_replicate]
 rw[e2,e3,jx];simp[eb]
theorem eB(number:Int)(b:List UInt8):(cg number b).length=bu b.length:=by simp[cg]
def fi(s:jP)(number place:Int):Option (List UInt8×Int):=
 match mI (s.take 63)with
 |none=>none
 |some t=>if s.getD 63 0≠1 then none
  else if GD (t.take 4)≠number∨(((t.getD 4 0).toNat:Nat):Int)≠place∨place≥(((t.getD 5 0).toNat:Nat):Int)∨(((t.getD 6 0).toNat:Nat):Int)>52 then none
  else some ((t.drop 7).take (t.getD 6 0).toNat,(((t.getD 5 0).toNat:Nat):Int))
theorem Be{number:Int}{place all:Nat}{p:List UInt8}(h:p.length≤52)(h0:0≤number)(h1:number<4294967296)(hp:place<all)(ha:all≤255):fi (pA number place all p) number place=some (p,(all:Int)):=by
 have e1:(pA number place all p).take 63=pF (jx number place all p):=by
  rw[pA,cm (by rw[ky,jl h];omega),aB (by rw[ky,jl h];omega)]
 have e2:(pA number place all p).getD 63 0=1:=by
  rw[pA,List.getD_eq_getElem?_getD,List.getElem?_append_right (by rw[ky,jl h];omega),ky,jl h];rfl
 have n1:(((r8 (place:Int)).toNat:Nat):Int)=place:=by rw[lR];omega
 have n2:(((r8 (all:Int)).toNat:Nat):Int)=all:=by rw[lR];omega
 have n3:(((r8 (p.length:Int)).toNat:Nat):Int)=p.length:=by rw[lR];omega
 unfold fi;rw[e1,qE];simp only[e2,ne_eq,not_true_eq_false,if_false];have t4:(jx number place all p).take 4=IF number:=rfl;have g4:(jx number place all p).getD 4 0=r8 (place:Int):=rfl;have g5:(jx number place all p).getD 5 0=r8 (all:Int):=rfl;have g6:(jx number place all p).getD 6 0=r8 (p.length:Int):=rfl;have g7:(jx number place all p).drop 7=p++List.replicate (52-p.length) 0:=rfl;rw[t4,Jw h0 h1,g4,g5,g6,g7,n1,n2,n3];rw[if_neg (by omega)];have n3':(r8 (p.length:Int)).toNat=p.length:=by omega
 rw[n3'];simp
theorem qO{s:jP}{number place:Int}(h:s.getD 63 0≠1):fi s number place=none:=by
 unfold fi;split
 · rfl
 · rw[if_pos h]
theorem oz{s b:jP}{number place all:Int}(hs:s.length=64)(h:fi s number place=some (b,all)):place<all∧all≤255∧b.length≤52:=by
 unfold fi at h;split at h
 · cases h
 · rename_i t ht
   have hl:=xZ ht;split at h
   · cases h
   · split at h
     · cases h
     · rename_i h2
       injection h with h
       simp only[Prod.mk.injEq]at h;obtain⟨rfl,rfl⟩:=h;have:=(t.getD 5 0).toNat_lt;rw[bn];omega
theorem zv{s:jP}{number place:Int}(h:mI (s.take 63)=none):fi s number place=none:=by simp only[fi,h]
theorem mh{s t:jP}{number place:Int}(h:mI (s.take 63)=some t)(h2:GD (t.take 4)≠number∨(((t.getD 4 0).toNat:Nat):Int)≠place∨place≥(((t.getD 5 0).toNat:Nat):Int)∨(((t.getD 6 0).toNat:Nat):Int)>52):fi s number place=none:=by
 simp only[fi,h];split
 · rfl
 · first|rfl|rw[if_pos h2]
theorem Bd{s t:jP}{number place:Int}(h:mI (s.take 63)=some t)(h1:s.getD 63 0=1)(h2: ¬(GD (t.take 4)≠number∨(((t.getD 4 0).toNat:Nat):Int)≠place∨place≥(((t.getD 5 0).toNat:Nat):Int)∨(((t.getD 6 0).toNat:Nat):Int)>52)):
 fi s number place=some ((t.drop 7).take (t.getD 6 0).toNat,(((t.getD 5 0).toNat:Nat):Int)):=by
 simp only[fi,h,h1,ne_eq,not_true_eq_false,if_false];rw[if_neg h2]
def kC(rd:Int→jP)(number at' all:Int):Nat→Option (List UInt8)
 |0=>some []
 |k+1=>match kC rd number at' all k with
  |none=>none
  |some b=>match fi (rd (at'+k)) number k with
   |none=>none
   |some (m,same)=>if same=all then some (b++m)else none
def fI(rd:Int→jP)(number at':Int):Option (List UInt8×Int):=
 match fi (rd at') number 0 with
 |none=>none
 |some (_,all)=>(kC rd number at' all all.toNat).map λb=>(b,all)
theorem Dh{rd:Int→jP}{number at' all:Int}{k:Nat}(h:kC rd number at' all k=none): ∀m,k≤m→kC rd number at' all m=none:=by
 intro m hm
 induction hm with
 |refl=>exact h
 |step _ ih=>simp only[kC,ih]
theorem wh{rd:Int→jP}{number at' all:Int}{k:Nat}(h:fi (rd (at'+k)) number k=none∨∃m same,fi (rd (at'+k)) number k=some (m,same)∧same≠all): ∀m,k<m→kC rd number at' all m=none:=by
 refine λm hm=>Dh (k:=k+1) ?_ m hm
 simp only[kC];cases kC rd number at' all k with
 |none=>rfl
 |some b=>
  rcases h with h| ⟨x,same,h,h2⟩
  · simp only[h]
  · simp only[h,if_neg h2]
theorem wj{rd:Int→jP}{number at' all:Int}{k:Nat}{b x:List UInt8}(h:kC rd number at' all k=some b)(h2:fi (rd (at'+k)) number k=some (x,all)):kC rd number at' all (k+1)=some (b++x):=by
 simp only[kC,h,h2,if_true]
theorem F7{rd:Int→jP}{number at' all:Int}{b:List UInt8}(h:fi (rd at') number 0=some (b,all)):kC rd number at' all 1=some b:=by
 have h0:kC rd number at' all 0=some []:=rfl;have:=wj (rd:=rd) (number:=number) (at':=at') (all:=all) (k:=0) h0 (x:=b) (by simpa using h)
 simpa using this
theorem qk{rd:Int→jP}{number at':Int}(h:fi (rd at') number 0=none):fI rd number at'=none:=by simp only[fI,h]
theorem qj{rd:Int→jP}{number at' all:Int}{b:List UInt8}(h:fi (rd at') number 0=some (b,all))(h2:kC rd number at' all all.toNat=none):fI rd number at'=none:=by simp only[fI,h,h2,Option.map_none]
theorem rR{rd:Int→jP}{number at' all:Int}{b c:List UInt8}(h:fi (rd at') number 0=some (b,all))(h2:kC rd number at' all all.toNat=some c):fI rd number at'=some (c,all):=by simp only[fI,h,h2,Option.map_some]
def fQ(rd:Int→jP):Nat→Int→Int→List (List UInt8)×Int
 |0,_,used=>([],used)
 |f+1,cnt,used=>match fI rd (cnt+1) used with
  |none=>([],used)
  |some (b,all)=>let r:=fQ rd f (cnt+1) (used+all);(b::r.1,r.2)
def jw:Nat→Int→DS→Int×DS
 |0,_,D=>(0,D)
 |n+1,at',D=>if D.read at'=zs then jw n (at'+1) D else if(D.write at' []).1=0 then jw n (at'+1) (D.write at' []).2 else D.write at' []
structure OpenR where
 err:Int
 recs:List (List UInt8)
 used:Int
 D:DS
def jf:Nat:=2049
theorem sy:jf=2049:=rfl
def bL(D:DS):OpenR:=
 let r:=fQ D.read jf 0 0;let w:=jw (2048-r.2).toNat r.2 D
 if w.1≠0 then⟨w.1,[],0,w.2⟩else if w.2.sync.1≠0 then⟨w.2.sync.1,[],0,w.2.sync.2⟩else⟨0,r.1,r.2,w.2.sync.2⟩
def In(s:fA):Prop:=∀p∈s,0≤p.1∧p.1<2048
def DS.In(D:DS):Prop:=Wal.In D.s∧Wal.In D.ws
end Wal
end

section
namespace Go.Proofs.YtjblgopghhgflaaGreat
open Go Leg Codec Api Dsk Wal
theorem Ew(x:Value)(ps:List (List UInt8)):
 DT 128 #[x] (Nf x ps) [] (RI (.int .u32 (fR ps.flatten)) []):=by
 refine BD 39 Tryz.func128 rfl rfl rfl λw0 F hF=>sr λ_ J1=>PS ?_
 refine nx J1 (sr λ_ J2=>PS ?_);refine nx J2 (ab λ_ J3=>sr λ_ J4=>PS ?_);refine tp (dF rfl uG rfl hF.len) ?_;refine PS ?_;refine nx J4 (aq ?_)
 refine bp (α:=(Nat)) (λk=>k≤ps.length) (λk=>[(2,(.int .u32 0)),(3,(.int .u32 (fk 4294967295 (ps.take k).flatten))),(8,x),(9,(.int .i64 (((ps.length:Nat):Int)))),(10,(.int .i64 (((k:Nat):Int))))]) (λk=>[]) (λk=>ps.length-k) 0
  (aO _) SB
  (λ_ s=>s) (λk hinv=>?_)
 obtain hk:=hinv;refine sr λ_ J5=>PS ?_
 refine an ?_ ?_<;>intro h11;obtain⟨b_a,off_a,cap_a,cs_a,T_a,z_a,us_a,hv_a,hc_a,hb_a,hl_a,hs_a,hE_a⟩:=IsL.at hF (j:=k) (by omega);obtain⟨u_a,rfl,hu_a⟩:=hE_a;refine nx J5 (ab λ_ J6=>CY (qx J6 (ab λ_ J7=>aq (sr λ_ J8=>tp (bT (r:=off_a+k) hv_a rfl uG nr rfl rfl (by omega) (by omega) (by omega)) ?_))));refine tp (c7 (v:=u_a) rfl gp rfl rfl (Cq hb_a (λ_ h=>ez h)) (by have:=AI (j:=0) hs_a rfl;simpa using this)) ?_;refine PS ?_;refine nx J8 (sr λ_ J9=>PS ?_);refine tp (dF rfl gp rfl hu_a.len) ?_;refine PS ?_;refine nx J9 (aq ?_)
 refine bp (α:=(Nat)) (λj=>j≤ps[k].length) (λj=>[(2,(.int .u32 0)),(3,(.int .u32 (fk (fk 4294967295 (ps.take k).flatten) (ps[k].take j)))),(8,x),(9,(.int .i64 (((ps.length:Nat):Int)))),(10,(.int .i64 (((k:Nat):Int)))),(14,u_a),(15,(.int .i64 (((ps[k].length:Nat):Int)))),(16,(.int .i64 (((j:Nat):Int))))]) (λj=>[]) (λj=>ps[k].length-j) 0
  (aO _) SB
  (λ_ s=>s) (λj hinv=>?_)
 obtain hj:=hinv;refine sr λ_ J10=>PS ?_
 refine an ?_ ?_<;>intro h17;obtain⟨b_b,off_b,cap_b,cs_b,T_b,z_b,hv_b,hb_b,hcs_b,hcp_b⟩:=IsW.at hu_a (j:=j) (by omega);have hlt_b:=IsW.lt hu_a;refine nx J10 (ab λ_ J11=>CY (qx J11 (ab λ_ J12=>aq (sr λ_ J13=>tp (bT (r:=off_b+j) hv_b rfl gp k0 rfl rfl (by omega) (by omega) (by omega)) ?_))));refine tp (c7 (v:=(.int .u8 (((((ps[k]).getD j 0).toNat:Nat):Int)))) rfl Y5 rfl rfl (Cq hb_b (λ_ h=>ez h)) (hcs_b j (by omega))) ?_;refine PS ?_;refine nx J13 (sr λ_ J14=>P2 ?_);refine tp (el (r:=((((ps[k]).getD j 0).toNat:Nat):Int)) rfl Y5 Ag rfl (kj (by omega) (by have:=(ps[k].getD j 0).toNat_lt;omega))) ?_;refine tp (PV.xor (r:=pe .u32 (fk (fk 4294967295 (ps.take k).flatten) (ps[k].take j)) (((((ps[k]).getD j 0).toNat:Nat):Int))) rfl rfl rfl rfl) ?_;refine PS ?_;refine nx J14 (sr λ_ J15=>PS ?_);refine nx J15 (aq ?_)
 refine bp (α:=(Nat)) (λi=>i≤8) (λi=>[(2,(.int .u32 0)),(3,(.int .u32 (mp (pe .u32 (fk (fk 4294967295 (ps.take k).flatten) (ps[k].take j)) ((((ps[k]).getD j 0).toNat:Nat):Int)) i))),(8,x),(9,(.int .i64 (((ps.length:Nat):Int)))),(10,(.int .i64 (((k:Nat):Int)))),(14,u_a),(15,(.int .i64 (((ps[k].length:Nat):Int)))),(16,(.int .i64 (((j:Nat):Int)))),(24,(.int .i64 (((i:Nat):Int))))]) (λi=>[]) (λi=>8-i) 0
  (aO _) SB
  (λ_ s=>s) (λi hinv=>?_)
 obtain hi:=hinv;refine sr λ_ J16=>PS ?_
 refine an ?_ ?_<;>intro h25;refine nx J16 (ab λ_ J17=>CY (qx J17 (ab λ_ J18=>aq (sr λ_ J19=>PS ?_))));refine tp (uK (r:=sL .u32 (mp (pe .u32 (fk (fk 4294967295 (ps.take k).flatten) (ps[k].take j)) ((((ps[k]).getD j 0).toNat:Nat):Int)) i) 1) rfl rfl rfl rfl) ?_;refine PS ?_;refine an ?_ ?_<;>intro h28;refine nx J19 (CY (ad (PS ?_)));refine tp (lJ (r:=(mp (pe .u32 (fk (fk 4294967295 (ps.take k).flatten) (ps[k].take j)) ((((ps[k]).getD j 0).toNat:Nat):Int)) i).fdiv 2) rfl rfl rfl (by omega) rfl) ?_;refine tp (PV.xor (r:=pe .u32 ((mp (pe .u32 (fk (fk 4294967295 (ps.take k).flatten) (ps[k].take j)) ((((ps[k]).getD j 0).toNat:Nat):Int)) i).fdiv 2) 3988292384) rfl rfl rfl rfl) ?_;refine PS ?_;refine ap (af (ac J18 (ad (AD ?_))));refine PS ?_;refine ap ?_
 exact aI ((i+1):(Nat)) (by omega) (by show 8- (i+1)<8-i;omega)
  (aM (bg rfl (congrArg (Value.int .u32) (by rw[mp,DU,if_pos h28])) SB))
  (λ_ s=>s)
 refine nx J19 (CN (ad (PS ?_)));refine tp (lJ (r:=(mp (pe .u32 (fk (fk 4294967295 (ps.take k).flatten) (ps[k].take j)) ((((ps[k]).getD j 0).toNat:Nat):Int)) i).fdiv 2) rfl rfl rfl (by omega) rfl) ?_;refine PS ?_;refine ap (af (ac J18 (ad (AD ?_))));refine PS ?_;refine ap ?_
 exact aI ((i+1):(Nat)) (by omega) (by show 8- (i+1)<8-i;omega)
  (aM (bg rfl (congrArg (Value.int .u32) (by rw[mp,DU,if_neg h28])) SB))
  (λ_ s=>s)
 refine nx J16 (ab λ_ J20=>CN (aW (az (az (bm (af (ac J12 (ad (AD ?_)))))))));refine PS ?_;refine ap ?_
 exact aI ((j+1):(Nat)) (by omega) (by show ps[k].length- (j+1)<ps[k].length-j;omega)
  (aM (bg rfl (congrArg (Value.int .u32) (by obtain rfl:i=8:=(by omega);rw[B1 (by omega)];rfl)) SB))
  (λ_ s=>s)
 refine nx J10 (ab λ_ J21=>CN (aW (az (az (bm (af (ac J7 (ad (AD ?_)))))))));refine PS ?_;refine ap ?_
 exact aI ((k+1):(Nat)) (by omega) (by show ps.length- (k+1)<ps.length-k;omega)
  (aM (bg rfl (congrArg (Value.int .u32) (by rw[show j=ps[k].length by omega,ic,B2 (by omega)])) SB))
  (λ_ s=>s)
 refine nx J5 (ab λ_ J22=>CN (aW (az (az (bm (ac J3 (sr λ_ J23=>PS ?_)))))));refine tp (PV.com (r:=pe .u32 4294967295 (fk 4294967295 (ps.take k).flatten)) rfl rfl rfl) ?_;refine PS ?_;refine nx J23 (ai (WK [] (au rfl rfl ?_)));obtain rfl:k=ps.length:=by omega
 rw[ic];exact⟨rfl,rfl⟩
theorem tJ(x:Value)(bs:List UInt8)(hb:bs.length≤1000000000):
 DT 90 #[x] (IsW x bs) [] (dm (λv H=>H=[dQ v (pF bs) 5])):=by
 refine BD 29 Tryz.func90 rfl rfl rfl λw0 F hF=>sr λ_ J1=>PS ?_
 refine nx J1 (sr λ_ J2=>PS ?_);refine aU (cells:=#[x]) (aa rfl) rfl rfl rfl uG Gi rfl rfl rfl (sB hF.one (by simp)) (λb6=>CF Kg (Ew (.slice (some ⟨b6,0,none⟩) (1) (1)) [bs]) ID (BA hF 0 rfl rfl) ?_);rw[show [bs].flatten=bs by simp];refine PS ?_;refine nx J2 (sr λ_ J3=>PS ?_);refine tp (dF rfl gp rfl hF.len) ?_;refine AD ?_;refine TL.makeB (0) (bs.length+4) (aa rfl) rfl rfl rfl gp yv rfl rfl rfl (by omega) (by omega) (by omega) (λb11=>cr (H':=[dQ (.slice (some ⟨b11,0,none⟩) 0 (bs.length+4)) ([]) 5,ah b6 [x] 93]) (λ_ s=>El 0 rfl rfl (by omega) (by simp only[maxLen];omega) (by simp[eb]) rfl s) (PS ?_));refine nx J3 (sr λ_ J4=>P2 ?_);refine cH (k:=0) (news:=eb (bs)) (nn':=(bs:List UInt8).length) (xs':=eb (bs)) (aa rfl) rfl rfl rfl gp yv rfl rfl rfl rfl rfl rfl (λ_ _=>hF.src (λ_ h=>ez h)) (eU _) (by simp only[maxLen,aD];omega) (by simp only[aD];omega) (by simp) (be _) (λv14 ov14=>PS ?_);refine nx J4 (sr λ_ J5=>P2 ?_);refine tp (el (r:=(((r8 (fR bs)).toNat:Nat):Int)) rfl Ag Y5 rfl (r8_wrap _)) ?_;refine PS ?_;refine tp (lJ (r:=(fR bs).fdiv 256) rfl rfl rfl (by omega) rfl) ?_;refine tp (el (r:=(((r8 ((fR bs).fdiv 256)).toNat:Nat):Int)) rfl Ag Y5 rfl (r8_wrap _)) ?_;refine PS ?_;refine tp (lJ (r:=(fR bs).fdiv 65536) rfl rfl rfl (by omega) rfl) ?_;refine tp (el (r:=(((r8 ((fR bs).fdiv 65536)).toNat:Nat):Int)) rfl Ag Y5 rfl (r8_wrap _)) ?_;refine PS ?_
 refine tp (lJ (r:=(fR bs).fdiv 16777216) rfl rfl rfl (by omega) rfl) ?_;refine tp (el (r:=(((r8 ((fR bs).fdiv 16777216)).toNat:Nat):Int)) rfl Ag Y5 rfl (r8_wrap _)) ?_;refine aU (cells:=#[(.int .u8 ((((r8 (fR bs)).toNat:Nat):Int))),(.int .u8 ((((r8 ((fR bs).fdiv 256)).toNat:Nat):Int))),(.int .u8 ((((r8 ((fR bs).fdiv 65536)).toNat:Nat):Int))),(.int .u8 ((((r8 ((fR bs).fdiv 16777216)).toNat:Nat):Int)))]) (aa rfl) rfl rfl rfl gp yv rfl rfl rfl (by as_aux_lemma=>kernel_rfl) (λb27=>cH (k:=1) (news:=eb ([(r8 (fR bs)),(r8 ((fR bs).fdiv 256)),(r8 ((fR bs).fdiv 65536)),(r8 ((fR bs).fdiv 16777216))])) (nn':=(bs++[(r8 (fR bs)),(r8 ((fR bs).fdiv 256)),(r8 ((fR bs).fdiv 65536)),(r8 ((fR bs).fdiv 16777216))]:List UInt8).length) (xs':=eb (bs++[(r8 (fR bs)),(r8 ((fR bs).fdiv 256)),(r8 ((fR bs).fdiv 65536)),(r8 ((fR bs).fdiv 16777216))])) (aa rfl) rfl rfl rfl gp yv rfl rfl rfl rfl rfl rfl (λ_ _=>ju rfl (RO 0) rfl) (eU [(r8 (fR bs)),(r8 ((fR bs).fdiv 256)),(r8 ((fR bs).fdiv 65536)),(r8 ((fR bs).fdiv 16777216))]) (by simp only[maxLen];omega) (by omega) (by simp) (iT _ _).symm (λv28 ov28=>PS ?_));exact nx J5 (ai (WK [1] (au rfl rfl rfl)))
theorem Fj(a:Option Addr)(c:Nat)(bs:List UInt8)(hc:bs.length≤c)(hb:bs.length≤1000000000):
 DT 167 #[(.slice a bs.length c)] (IsW (.slice a bs.length c) bs) [] (dm (λv H=>(mI bs=none∧v= .tuple #[.slice none 0 0, .bool false]∧H=[])∨∃t u,mI bs=some t∧v= .tuple #[u, .bool true]∧H=[dQ u t 5])):=by
 refine BD 50 Tryz.func167 rfl rfl rfl λw0 F hF=>sr λ_ J1=>P2 ?_
 refine nx J1 (ab λ_ J2=>sr λ_ J3=>PS ?_);refine tp (dF rfl gp rfl ⟨_,_,rfl⟩) ?_;refine PS ?_;refine an ?_ ?_<;>intro h9;refine nx J3 (CY (sr λ_ J4=>P2 ?_));refine nx J4 (ai (ae (WK [] (iw rfl rfl rfl ?_))));exact .inl ⟨by rw[mI,if_pos (by omega)],rfl,rfl⟩;have hT:IsW (jM (.slice a bs.length c) 0 (bs.length-4)) (bs.take (bs.length-4)) F:=by have:=hF.cut (lo:=0) (hi:=bs.length-4) (by omega) (by omega);simpa using this
 have hU:IsW (jM (.slice a bs.length c) (bs.length-4) bs.length) (bs.drop (bs.length-4)) F:=by have:=hF.cut (lo:=bs.length-4) (hi:=bs.length) (by omega) (by omega);rwa [ic]at this
 have hq:(bs.drop (bs.length-4)).length=4:=by rw[cz];omega
 obtain⟨b_b,off_b,cap_b,cs_b,T_b,z_b,hv_b,hb_b,hcs_b,hcp_b⟩:=IsW.at hU (j:=0) (by omega);have hlt_b:=IsW.lt hU;refine nx J3 (CN (qx J2 (ab λ_ J5=>D0 dB ?_)));refine PD 0 ?_;refine PD 1 ?_;refine ta 2 rfl (dF rfl gp rfl ⟨_,_,rfl⟩) ?_;refine ta 3 rfl (iP (r:=(((bs.length-4:Nat):Nat):Int)) rfl rfl rfl (by rw[show(((bs.length:Nat):Int)-4)=((bs.length-4:Nat):Int)by omega];exact bI (by omega) (by omega))) ?_;refine ta 4 rfl (PV.sliceH (hi:=bs.length-4) rfl gp k0 rfl rfl rfl (by omega)) ?_;refine PD 5 ?_;refine PD 6 ?_;refine ta 7 rfl (dF rfl gp rfl ⟨_,_,rfl⟩) ?_;refine ta 8 rfl (iP (r:=(((bs.length-4:Nat):Nat):Int)) rfl rfl rfl (by rw[show(((bs.length:Nat):Int)-4)=((bs.length-4:Nat):Int)by omega];exact bI (by omega) (by omega))) ?_;refine ta 9 rfl (PV.sliceL (lo:=bs.length-4) rfl gp k0 rfl rfl rfl (by omega)) ?_;refine PD 10 ?_;refine PD 11 ?_;refine DN (ac J5 (ab λ_ J6=>D0 dB ?_));refine PD 0 ?_;refine ta 1 rfl (bT (r:=off_b) hv_b rfl gp k0 rfl rfl (by omega) (by omega) (by omega)) ?_;refine ta 2 rfl (c7 (v:=(.int .u8 ((((((bs.drop (bs.length-4))).getD 0 0).toNat:Nat):Int)))) rfl Y5 rfl rfl (Cq hb_b (λ_ h=>h.1)) (hcs_b 0 (by omega))) ?_;refine ta 3 rfl (el (r:=(((((bs.drop (bs.length-4))).getD 0 0).toNat:Nat):Int)) rfl Y5 Ag rfl (kj (by omega) (by have:=UInt8.toNat_lt (n:=(bs.drop (bs.length-4)).getD 0 0);omega))) ?_;refine PD 4 ?_
 refine ta 5 rfl (bT (r:=off_b+1) hv_b rfl gp k0 rfl rfl (by omega) (by omega) (by omega)) ?_;refine ta 6 rfl (c7 (v:=(.int .u8 ((((((bs.drop (bs.length-4))).getD 1 0).toNat:Nat):Int)))) rfl Y5 rfl rfl (Cq hb_b (λ_ h=>h.1)) (hcs_b 1 (by omega))) ?_;refine ta 7 rfl (el (r:=(((((bs.drop (bs.length-4))).getD 1 0).toNat:Nat):Int)) rfl Y5 Ag rfl (kj (by omega) (by have:=UInt8.toNat_lt (n:=(bs.drop (bs.length-4)).getD 1 0);omega))) ?_;refine ta 8 rfl (xK (r:=IntKind.u32.wrap ((((((bs.drop (bs.length-4))).getD 1 0).toNat:Nat):Int)*2^8)) rfl rfl rfl (by omega) rfl) ?_;refine ta 9 rfl (Ir (r:=iz .u32 (((((bs.drop (bs.length-4))).getD 0 0).toNat:Nat):Int) (IntKind.u32.wrap ((((((bs.drop (bs.length-4))).getD 1 0).toNat:Nat):Int)*2^8))) rfl rfl rfl rfl) ?_;refine PD 10 ?_;refine ta 11 rfl (bT (r:=off_b+2) hv_b rfl gp k0 rfl rfl (by omega) (by omega) (by omega)) ?_;refine ta 12 rfl (c7 (v:=(.int .u8 ((((((bs.drop (bs.length-4))).getD 2 0).toNat:Nat):Int)))) rfl Y5 rfl rfl (Cq hb_b (λ_ h=>h.1)) (hcs_b 2 (by omega))) ?_;refine ta 13 rfl (el (r:=(((((bs.drop (bs.length-4))).getD 2 0).toNat:Nat):Int)) rfl Y5 Ag rfl (kj (by omega) (by have:=UInt8.toNat_lt (n:=(bs.drop (bs.length-4)).getD 2 0);omega))) ?_;refine ta 14 rfl (xK (r:=IntKind.u32.wrap ((((((bs.drop (bs.length-4))).getD 2 0).toNat:Nat):Int)*2^16)) rfl rfl rfl (by omega) rfl) ?_
 refine ta 15 rfl (Ir (r:=iz .u32 (iz .u32 (((((bs.drop (bs.length-4))).getD 0 0).toNat:Nat):Int) (IntKind.u32.wrap ((((((bs.drop (bs.length-4))).getD 1 0).toNat:Nat):Int)*2^8))) (IntKind.u32.wrap ((((((bs.drop (bs.length-4))).getD 2 0).toNat:Nat):Int)*2^16))) rfl rfl rfl rfl) ?_;refine PD 16 ?_;refine ta 17 rfl (bT (r:=off_b+3) hv_b rfl gp k0 rfl rfl (by omega) (by omega) (by omega)) ?_;refine ta 18 rfl (c7 (v:=(.int .u8 ((((((bs.drop (bs.length-4))).getD 3 0).toNat:Nat):Int)))) rfl Y5 rfl rfl (Cq hb_b (λ_ h=>h.1)) (hcs_b 3 (by omega))) ?_;refine ta 19 rfl (el (r:=(((((bs.drop (bs.length-4))).getD 3 0).toNat:Nat):Int)) rfl Y5 Ag rfl (kj (by omega) (by have:=UInt8.toNat_lt (n:=(bs.drop (bs.length-4)).getD 3 0);omega))) ?_;refine ta 20 rfl (xK (r:=IntKind.u32.wrap ((((((bs.drop (bs.length-4))).getD 3 0).toNat:Nat):Int)*2^24)) rfl rfl rfl (by omega) rfl) ?_;refine ta 21 rfl (Ir (r:=HO ((bs.drop (bs.length-4)).getD 0 0) ((bs.drop (bs.length-4)).getD 1 0) ((bs.drop (bs.length-4)).getD 2 0) ((bs.drop (bs.length-4)).getD 3 0)) rfl rfl rfl rfl) ?_;refine PD 22 ?_;refine DN (ac J6 (ab λ_ J7=>sr λ_ J8=>PS ?_));refine aU (cells:=#[(jM (.slice a bs.length c) 0 (bs.length-4))]) (aa rfl) rfl rfl rfl uG Gi rfl rfl rfl (sB hT.one (by simp)) (λb43=>CF Kg (Ew (.slice (some ⟨b43,0,none⟩) (1) (1)) [(bs.take (bs.length-4))]) ID (BA hT 0 rfl rfl) ?_)
 rw[show [(bs.take (bs.length-4))].flatten=(bs.take (bs.length-4))by simp];refine P2 ?_;refine an ?_ ?_<;>intro h46;refine nx J8 (CY (sr λ_ J9=>P2 ?_));refine nx J9 (ai (ae (WK [] (iw rfl rfl rfl ?_))));exact .inl ⟨by rw[mI,if_neg (by omega),if_neg h46],rfl,rfl⟩;refine nx J8 (CN (qx J7 (sr λ_ J10=>Cj (aa rfl) rfl rfl rfl gp k0 (λv47=>PS ?_))));refine cH (k:=0) (news:=eb ((bs.take (bs.length-4)))) (nn':=((bs.take (bs.length-4)):List UInt8).length) (xs':=eb ((bs.take (bs.length-4)))) (aa rfl) rfl rfl rfl gp yv rfl rfl rfl rfl rfl rfl (λ_ _=>hT.src (λ_ h=>ez h)) (eU _) (by simp only[maxLen,aD,bn];omega) (by simp only[aD,bn];omega) (by simp) (be _) (λv49 ov49=>P2 ?_);refine nx J10 (ai (WK [0] (iw rfl rfl rfl ?_)));exact .inr ⟨_,_,by rw[mI,if_neg (by omega),if_pos (by simpa using h46)],rfl,rfl⟩
theorem xY(x:Value)(bs:List UInt8)(hb:bs.length≤1000000000):DT 167 #[x] (IsW x bs) [] (dm (λv H=>(mI bs=none∧v= .tuple #[.slice none 0 0, .bool false]∧H=[])∨∃t u,mI bs=some t∧v= .tuple #[u, .bool true]∧H=[dQ u t 5])):=λw G h m=>by
 obtain⟨a,c,rfl,hc,_⟩:=h.form;exact Fj a c bs hc hb w G h m
theorem tT(n:Nat)(hn:n≤1000000000000):
 DT 176 #[(.int .i64 (((n:Nat):Int)))] T0 [] (RI (.int .i64 ((bu n:Nat):Int)) []):=by
 refine BD 9 Tryz.func176 rfl rfl rfl λw0 F hF=>sr λ_ J1=>PS ?_
 refine nx J1 (ab λ_ J2=>sr λ_ J3=>P2 ?_);refine an ?_ ?_<;>intro h4;refine nx J3 (CY (sr λ_ J4=>PS ?_));refine nx J4 (ai (ae (WK [] (au rfl rfl ?_))));obtain rfl:n=0:=by omega
 exact⟨rfl,rfl⟩;refine nx J3 (CN (qx J2 (sr λ_ J5=>PS ?_)));refine tp (iP rfl rfl rfl (bI (by omega) (by omega))) ?_;refine tp (PV.quo (r:=(((n-1) / 52:Nat):Int)) rfl rfl rfl (by omega) (by rw[show(((n:Nat):Int)-1)=((n-1:Nat):Int)by omega];exact KF (n-1) 52 (by omega))) ?_;refine AD ?_;refine PS ?_;refine nx J5 (ai (WK [] (au rfl rfl ?_)));rw[bu,if_neg (by omega)];exact⟨by simp,rfl⟩
theorem C1{number:Int}{bs:List UInt8}{k:Nat}:mK number bs (k+1)=mK number bs k++[pF (jx number k (bu bs.length) (gl bs k))++[1]]:=C0 number bs k
theorem ze(a:Option Addr)(c number:Nat)(bs:List UInt8)(hc:bs.length≤c)(hb:bs.length≤3000):
 DT 178 #[(.int .i64 (((number:Nat):Int))),(.slice a bs.length c)] (IsW (.slice a bs.length c) bs) [] (dm (λv H=>H=[l7 93 5 v (cg ((number:Nat):Int) bs)])):=by
 refine BD 68 Tryz.func178 rfl rfl rfl λw0 F hF=>sr λ_ J1=>PS ?_
 refine nx J1 (sr λ_ J2=>PS ?_);refine tp (dF rfl gp rfl ⟨_,_,rfl⟩) ?_;refine CE JS (tT bs.length (by omega)) ID ?_;refine PS ?_;refine nx J2 (sr λ_ J3=>PS ?_);refine nx J3 (ab λ_ J4=>sr λ_ J5=>P2 ?_);refine nx J5 (aq ?_)
 refine bp (α:=(Nat)×(Value)) (λ⟨k,vr⟩=>k≤bu bs.length∧vr.oneCell'=true) (λ⟨k,vr⟩=>[(0,(.int .i64 (((number:Nat):Int)))),(1,(.slice a bs.length c)),(4,(.slice none 0 0)),(5,(.int .i64 (((bu bs.length:Nat):Int)))),(6,vr),(14,(.int .i64 (((bu bs.length:Nat):Int)))),(15,(.int .i64 (((k:Nat):Int))))]) (λ⟨k,vr⟩=>[l7 93 5 vr (mK ((number:Nat):Int) bs k)]) (λ⟨k,vr⟩=>bu bs.length-k) (0,(.slice none 0 0))
  ⟨aO _,rfl⟩ SB
  (λ_ s=>tL 93 5 s) (λ⟨k,vr⟩ hinv=>?_)
 obtain⟨hk,hvr⟩:=hinv;refine sr λ_ J6=>PS ?_
 refine an ?_ ?_<;>intro h16;have hkn:=I3 (n:=bs.length) (k:=k) (by omega);have hpe:=I4 bs k;have hP:IsW (jM (.slice a bs.length c) (k*52) (min ((k+1)*52) bs.length)) (gl bs k) F:=by rw[←hpe];exact hF.cut (by omega) (by omega)
 have hpl:=ti bs k;have hpk:=vT hb;have hP2:=hP.len;refine nx J6 (ab λ_ J7=>CY (qx J7 (ab λ_ J8=>aq (sr λ_ J9=>P2 ?_))));refine nx J9 (sr λ_ J10=>P2 ?_);refine tp (JD (r:=((k*52:Nat):Int)) rfl rfl rfl (by rw[show((k:Nat):Int)*52=((k*52:Nat):Int)by omega];exact bI (by omega) (by omega))) ?_;refine PS ?_;refine AD ?_;refine tp (JD (r:=(((k+1)*52:Nat):Int)) rfl rfl rfl (by rw[show(((k:Nat):Int)+1)*52=(((k+1)*52:Nat):Int)by omega];exact bI (by omega) (by omega))) ?_;refine PS ?_;refine tp (dF rfl gp rfl ⟨_,_,rfl⟩) ?_;refine tp (PV.minI rfl rfl rfl) ?_;refine tp (PV.sliceLH (lo:=k*52) (hi:=min ((k+1)*52) bs.length) rfl gp k0 rfl rfl rfl rfl (by omega) (by omega) (by omega)) ?_;refine PS ?_;refine nx J10 (sr λ_ J11=>TL.makeB (59) (59) (aa rfl) rfl rfl rfl gp yv rfl rfl rfl rfl (by omega) (by omega) (λb28=>PS ?_));refine nx J11 (ab λ_ J12=>sr λ_ J13=>PS ?_);refine nx J13 (aq (ru 5 (sr λ_ J14=>PS ?_)));refine nx J14 (ab λ_ J15=>CY (qx J15 (ab λ_ J16=>aq (sr λ_ J17=>P2 ?_))));refine nx J17 (ad (P4 ?_));refine tp (iP (r:=3) rfl rfl rfl (by decide)) ?_;refine tp (JD (r:=24) rfl rfl rfl (by decide)) ?_;refine tp (lJ (r:=((number:Nat):Int).fdiv 16777216) rfl rfl rfl (by omega) rfl) ?_;refine tp (el (r:=(((r8 (((number:Nat):Int).fdiv 16777216)).toNat:Nat):Int)) rfl Y3 Y5 rfl (r8_wrap _)) ?_
 refine tp (jv (r:=0) rfl gp k0 rfl rfl (by first|omega|decide) (by first|omega|decide) rfl) ?_;refine S0 0 k0 ?_;refine ap (af (ac J16 (ad (tp (ci (r:=1) rfl rfl rfl (by decide)) ?_))));refine PS ?_;refine ap (ek (sr λ_ J18=>PS ?_));refine nx J18 (ab λ_ J19=>CY (qx J19 (ab λ_ J20=>aq (sr λ_ J21=>P2 ?_))));refine nx J21 (ad (P4 ?_));refine tp (iP (r:=2) rfl rfl rfl (by decide)) ?_;refine tp (JD (r:=16) rfl rfl rfl (by decide)) ?_;refine tp (lJ (r:=((number:Nat):Int).fdiv 65536) rfl rfl rfl (by omega) rfl) ?_;refine tp (el (r:=(((r8 (((number:Nat):Int).fdiv 65536)).toNat:Nat):Int)) rfl Y3 Y5 rfl (r8_wrap _)) ?_;refine tp (jv (r:=1) rfl gp k0 rfl rfl (by first|omega|decide) (by first|omega|decide) rfl) ?_;refine S0 0 k0 ?_;refine ap (af (ac J20 (ad (tp (ci (r:=2) rfl rfl rfl (by decide)) ?_))));refine PS ?_;refine ap (ek (sr λ_ J22=>PS ?_));refine nx J22 (ab λ_ J23=>CY (qx J23 (ab λ_ J24=>aq (sr λ_ J25=>P2 ?_))));refine nx J25 (ad (P4 ?_));refine tp (iP (r:=1) rfl rfl rfl (by decide)) ?_;refine tp (JD (r:=8) rfl rfl rfl (by decide)) ?_;refine tp (lJ (r:=((number:Nat):Int).fdiv 256) rfl rfl rfl (by omega) rfl) ?_;refine tp (el (r:=(((r8 (((number:Nat):Int).fdiv 256)).toNat:Nat):Int)) rfl Y3 Y5 rfl (r8_wrap _)) ?_;refine tp (jv (r:=2) rfl gp k0 rfl rfl (by first|omega|decide) (by first|omega|decide) rfl) ?_;refine S0 0 k0 ?_
 refine ap (af (ac J24 (ad (tp (ci (r:=3) rfl rfl rfl (by decide)) ?_))));refine PS ?_;refine ap (ek (sr λ_ J26=>PS ?_));refine nx J26 (ab λ_ J27=>CY (qx J27 (ab λ_ J28=>aq (sr λ_ J29=>P2 ?_))));refine nx J29 (ad (P4 ?_));refine tp (iP (r:=0) rfl rfl rfl (by decide)) ?_;refine tp (JD (r:=0) rfl rfl rfl (by decide)) ?_;refine tp (lJ (r:=((number:Nat):Int)) rfl rfl rfl (by omega) (Int.fdiv_one _)) ?_;refine tp (el (r:=(((r8 (((number:Nat):Int))).toNat:Nat):Int)) rfl Y3 Y5 rfl (r8_wrap _)) ?_;refine tp (jv (r:=3) rfl gp k0 rfl rfl (by first|omega|decide) (by first|omega|decide) rfl) ?_;refine S0 0 k0 ?_;refine ap (af (ac J28 (ad (tp (ci (r:=4) rfl rfl rfl (by decide)) ?_))));refine PS ?_;refine ap (ek (sr λ_ J30=>PS ?_));refine nx J30 (ab λ_ J31=>CN (aW (az (az (bm (ac J12 (sr λ_ J32=>P4 ?_)))))));refine tp (el (r:=(((r8 (((k:Nat):Int))).toNat:Nat):Int)) rfl Y3 Y5 rfl (r8_wrap _)) ?_;refine PS ?_;refine tp (el (r:=(((r8 (((bu bs.length:Nat):Int))).toNat:Nat):Int)) rfl Y3 Y5 rfl (r8_wrap _)) ?_;refine PS ?_;refine tp (dF rfl gp rfl hP2) ?_;refine tp (el (r:=(((r8 ((((gl bs k).length:Nat):Int))).toNat:Nat):Int)) rfl Y3 Y5 rfl (r8_wrap _)) ?_;refine tp (jv (r:=4) rfl gp k0 rfl rfl (by first|omega|decide) (by first|omega|decide) rfl) ?_;refine S0 0 k0 ?_;refine tp (jv (r:=5) rfl gp k0 rfl rfl (by first|omega|decide) (by first|omega|decide) rfl) ?_;refine S0 0 k0 ?_
 refine tp (jv (r:=6) rfl gp k0 rfl rfl (by first|omega|decide) (by first|omega|decide) rfl) ?_;refine S0 0 k0 ?_;refine nx J32 (sr λ_ J33=>PS ?_);refine tp (PV.sliceLo (k:=7) (v:=(.slice (some ⟨b28,7,none⟩) (52) (52))) rfl gp k0 rfl rfl rfl (by decide) rfl) ?_;refine PS ?_;refine Lt (i:=0) (m:=(gl bs k).length) (news:=(eb (gl bs k))) (H':=[ah b28 (eb (jx ((number:Nat):Int) k (bu bs.length) (gl bs k))) 5,l7 93 5 vr (mK ((number:Nat):Int) bs k)]) (aa rfl) rfl rfl rfl gp k0 rfl rfl rfl rfl (λ_ _=>hP.src (λ_ h=>ez h)) (eU _) (by show 7+min (gl bs k).length 52≤59;omega) (Fi (number:=((number:Nat):Int)) (place:=k) (all:=bu bs.length) hpl) rfl (nx J33 (ad (P2 ?_)));refine CQ L1 (tJ (.slice (some ⟨b28,0,none⟩) (59) (59)) (jx ((number:Nat):Int) k (bu bs.length) (gl bs k)) (by rw[jl hpl];decide)) ID (λg d s=>Iy (Bz 0 59 (jl hpl) (by decide) rfl rfl g d s)) λvR HR hR=>?_
 subst hR;refine aU (cells:=#[(.int .u8 1)]) (aa rfl) rfl rfl rfl gp yv rfl rfl rfl (by as_aux_lemma=>kernel_rfl) (λb62=>cH (k:=1) (news:=eb ([1])) (nn':=(pF (jx ((number:Nat):Int) k (bu bs.length) (gl bs k))++[1]:List UInt8).length) (xs':=eb (pF (jx ((number:Nat):Int) k (bu bs.length) (gl bs k))++[1])) (aa rfl) rfl rfl rfl gp yv rfl rfl rfl rfl rfl rfl (λ_ _=>ju rfl (RO 0) rfl) (eU [1]) (by rw[ky,jl hpl];simp only[maxLen];omega) (by rw[ky,jl hpl];omega) (by simp) (iT _ _).symm (λv63 ov63=>aU (cells:=#[v63]) (aa rfl) rfl rfl rfl uG Gi rfl rfl rfl (sB ov63 (by simp)) (λb64=>?_)));change TL _ _ _ _ _ _ _ _ _ [ah b64 [v63] 93,ah b62 [(.int .u8 1)] 5,dQ v63 (pF (jx ((number:Nat):Int) k (bu bs.length) (gl bs k))++[1]) 5,ah b28 (eb (jx ((number:Nat):Int) k (bu bs.length) (gl bs k))) 5,l7 93 5 vr (mK ((number:Nat):Int) bs k)];refine cr (λ_ s=>aC [4] rfl s) (Ks (λus65=>cH (k:=0) (m:=1) (news:=[v63]) (nn':=(mK ((number:Nat):Int) bs k).length+1) (xs':=us65++[v63]) (aa rfl) rfl rfl rfl uG Gi rfl rfl rfl rfl rfl rfl (λ_ _=>ju rfl (RO 2) rfl) (List.forall_mem_cons.2 ⟨ov63,λ_ h=>by cases h⟩) (by rw[x8];simp only[maxLen];omega) (by rw[x8];omega) rfl rfl (λv65 ov65=>?_)))
 change TL _ _ _ _ _ _ _ _ _ [own v65 ((mK ((number:Nat):Int) bs k).length+1) (us65++[v63]) 93 1,eA us65 (mK ((number:Nat):Int) bs k) 5,ah b64 [v63] 93,ah b62 [(.int .u8 1)] 5,dQ v63 (pF (jx ((number:Nat):Int) k (bu bs.length) (gl bs k))++[1]) 5,ah b28 (eb (jx ((number:Nat):Int) k (bu bs.length) (gl bs k))) 5];refine cr (λ_ s=>zc 4 rfl rfl s) (cr (H':=[own v65 ((mK ((number:Nat):Int) bs k).length+1) (us65++[v63]) 93 1,eA us65 (mK ((number:Nat):Int) bs k) 5,gx v63 (pF (jx ((number:Nat):Int) k (bu bs.length) (gl bs k))++[1]) 5,ah b64 [v63] 93,ah b62 [(.int .u8 1)] 5,ah b28 (eb (jx ((number:Nat):Int) k (bu bs.length) (gl bs k))) 5]) (λ_ s=>aC [0,0,2] rfl s) (cr (λ_ s=>tN s) ?_));rw[←C1];refine PS ?_;refine ap (af (ac J8 (ad (AD ?_))));refine PS ?_;refine ap ?_
 exact aI ((k+1,v65):(Nat)×(Value)) ⟨by omega,ov65⟩ (by show bu bs.length- (k+1)<bu bs.length-k;omega)
  SB
  (λ_ s=>ak [0] rfl s)
 refine nx J6 (ab λ_ J34=>CN (aW (az (az (bm (ac J4 (sr λ_ J35=>P2 ?_)))))));refine nx J35 (ai (WK [0] (au rfl rfl ?_)));obtain rfl:k=bu bs.length:=by omega
 exact rfl
theorem zf(x:Value)(number:Nat)(bs:List UInt8)(hb:bs.length≤3000):DT 178 #[.int .i64 ((number:Nat):Int),x] (IsW x bs) [] (dm (λv H=>H=[l7 93 5 v (cg ((number:Nat):Int) bs)])):=λw G h m=>by
 obtain⟨a,c,rfl,hc,_⟩:=h.form;exact ze a c number bs hc hb w G h m
theorem vV(s:jP)(number place:Int)(hs:s.length=64):
 DT 159 #[(.agg (eb s).toArray),(.int .i64 (number)),(.int .i64 (place))] T0 [] (dm (λv H=>(fi s number place=none∧v= .tuple #[.slice none 0 0, .int .i64 0, .bool false]∧H=[])∨∃b all u,fi s number place=some (b,all)∧v= .tuple #[u, .int .i64 all, .bool true]∧H=[gx u b 5])):=by
 refine BD 74 Tryz.func159 rfl rfl rfl λw0 F hF=>sr λ_ J1=>XY (eb s) λb3=>?_
 refine P3 ?_;refine nx J1 (sr λ_ J2=>tp (Ot (k:=63) rfl o5 k0 rfl rfl (by omega) (by omega) rfl) ?_);refine CQ JV (xY (.slice (some ⟨b3,0,none⟩) (63) (64)) (s.take 63) (by rw[bn];omega)) ID (λg d s'=>Iy (Gg 0 63 (by omega) (by omega) (by decide) (by rw[aB (by rw[a8];omega)]) hs.symm rfl rfl g d s')) λvR HR hR=>?_
 rcases hR with⟨ht,rfl,rfl⟩| ⟨t,u,ht,rfl,rfl⟩
 refine P4 ?_;refine PS ?_;refine nx J2 (ab λ_ J3=>sr λ_ J4=>PS ?_);refine PS ?_;refine PS ?_
 iterate 3 refine UT ?_
 refine PS ?_;refine nx J4 (CY (sr λ_ J5=>P3 ?_));exact nx J5 (ai (ae (WK [] (mY rfl rfl rfl rfl (.inl ⟨zv ht,rfl,rfl⟩)))));have htl:=xZ ht;rw[bn]at htl;have ht59:t.length=59:=by omega
 refine jO 0 rfl rfl (by omega) (λg cap hv hcap=>P4 ?_);refine PS ?_;refine nx J2 (ab λ_ J6=>sr λ_ J7=>PS ?_);refine PS ?_;refine PS ?_;refine IX 63 o5 k0 ?_;refine LT 1 Y5 (.int .u8 ((((s.getD 63 0).toNat:Nat):Int))) ?_ (hc:=by exact qB (by omega));refine PS ?_;refine an ?_ ?_<;>intro h26;refine PS ?_;refine nx J7 (CY (sr λ_ J8=>P3 ?_));refine nx J8 (ai (ae (WK [] (mY rfl rfl rfl rfl ?_))));exact .inl ⟨qO (λh=>h26 (by rw[h];rfl)),rfl,rfl⟩;refine PS ?_;refine nx J7 (CN (qx J6 (sr λ_ J9=>PS ?_)));refine nx J9 (ab λ_ J10=>sr λ_ J11=>PS ?_);refine tp (Oz (PV.sliceH (a:=some ⟨g,0,none⟩) (len:=t.length) (cap:=cap) (hi:=4) rfl gp k0 (by rw[←hv];rfl) rfl rfl (by omega)) (Jq (by omega))) ?_;refine tp (sP rfl gp rfl) ?_;refine PS ?_;refine nx J11 (aq ?_)
 refine bp (α:=(Nat)) (λk=>k≤4) (λk=>[(1,(.int .i64 (number))),(2,(.int .i64 (place))),(6,(.slice none 0 0)),(7,(.int .i64 0)),(8,(.bool false)),(9,u),(11,(.int .i64 (GD (t.take k)))),(29,(.slice (some ⟨g,0,none⟩) (4) (cap))),(30,(.int .i64 4)),(31,(.int .i64 (((k:Nat):Int))))]) (λk=>[dQ u (t) 5,ah b3 (eb s) 128]) (λk=>4-k) 0
  (aO _) SB
  (λ_ s=>s) (λk hinv=>?_)
 obtain hk:=hinv;refine sr λ_ J12=>PS ?_
 refine an ?_ ?_<;>intro h32;refine nx J12 (ab λ_ J13=>CY (qx J13 (ab λ_ J14=>aq (sr λ_ J15=>tp (jv (r:=k) rfl gp k0 rfl rfl (by first|omega|decide) (by first|omega|decide) (by omega)) ?_))));refine tp (c7 (v:=(.int .u8 ((((t.getD k 0).toNat:Nat):Int)))) rfl Y5 rfl rfl (fZ 0 rfl hv rfl) (qB (by omega))) ?_;refine PS ?_;refine nx J15 (ad (PS ?_));refine tp (xK (r:=IntKind.i64.wrap ((GD (t.take k))*2^8)) rfl rfl rfl (by omega) rfl) ?_;refine PS ?_;refine tp (el (r:=(((t.getD k 0).toNat:Nat):Int)) rfl Y5 Y3 rfl (bI (by omega) (by have:=UInt8.toNat_lt (n:=t.getD k 0);omega))) ?_;refine tp (Ir (r:=iz .i64 (IntKind.i64.wrap ((GD (t.take k))*2^8)) (((t.getD k 0).toNat:Nat):Int)) rfl rfl rfl rfl) ?_;refine PS ?_;refine ap (af (ac J14 (ad (AD ?_))));refine PS ?_;refine ap ?_
 exact aI ((k+1):(Nat)) (by omega) (by show 4- (k+1)<4-k;omega)
  (aM (aM (aM (aM (aM (aM (bg rfl (congrArg (Value.int .i64) (Ih (by omega)).symm) SB)))))))
  (λ_ s=>s)
 refine nx J12 (ab λ_ J16=>CN (aW (az (az (bm (ac J10 (ab λ_ J17=>n8 (λw=>Frm F w∧Hx g (eb (t)) w∧True) dB rfl (λ_ s=>⟨ez s,fZ 0 rfl hv rfl _ s,trivial⟩) (PD 0 ?_))))))));refine ta 1 rfl (bT (r:=5) hv rfl gp k0 rfl rfl (by omega) (by omega) rfl) ?_;refine ta 2 rfl (c7 (v:=(.int .u8 ((((t.getD 5 0).toNat:Nat):Int)))) rfl Y5 rfl rfl (λ_ h=>h.2.1) (qB (by omega))) ?_;refine ta 3 rfl (el (r:=(((t.getD 5 0).toNat:Nat):Int)) rfl Y5 Y3 rfl (bI (by omega) (by have:=UInt8.toNat_lt (n:=t.getD 5 0);omega))) ?_;refine PD 4 ?_;refine ta 5 rfl (bT (r:=6) hv rfl gp k0 rfl rfl (by omega) (by omega) rfl) ?_;refine ta 6 rfl (c7 (v:=(.int .u8 ((((t.getD 6 0).toNat:Nat):Int)))) rfl Y5 rfl rfl (λ_ h=>h.2.1) (qB (by omega))) ?_;refine ta 7 rfl (el (r:=(((t.getD 6 0).toNat:Nat):Int)) rfl Y5 Y3 rfl (bI (by omega) (by have:=UInt8.toNat_lt (n:=t.getD 6 0);omega))) ?_;refine PD 8 ?_;refine PD 9 ?_;refine DN (ac J17 (ab λ_ J18=>sr λ_ J19=>P3 ?_));refine an ?_ ?_<;>intro h51;refine PS ?_
 iterate 6 refine UT ?_
 refine P2 ?_
 iterate 3 refine UT ?_
 refine P2 ?_;refine UT ?_;refine UT ?_;refine PS ?_;refine nx J19 (CY (sr λ_ J20=>P3 ?_));refine nx J20 (ai (ae (WK [] (mY rfl rfl rfl rfl ?_))));exact .inl ⟨mh ht (.inl (by have:k=4:=(by omega);subst this;exact h51)),rfl,rfl⟩;refine P2 ?_;refine tq (bT (r:=4) hv rfl gp k0 rfl rfl (by omega) (by omega) rfl) ?_;refine tq (c7 (v:=(.int .u8 ((((t.getD 4 0).toNat:Nat):Int)))) rfl Y5 rfl rfl (fZ 0 rfl hv rfl) (qB (by omega))) ?_;refine tq (el (r:=(((t.getD 4 0).toNat:Nat):Int)) rfl Y5 Y3 rfl (bI (by omega) (by have:=UInt8.toNat_lt (n:=t.getD 4 0);omega))) ?_;refine P2 ?_;refine an ?_ ?_<;>intro h58;refine P2 ?_
 iterate 3 refine UT ?_
 refine P2 ?_;refine UT ?_;refine UT ?_;refine PS ?_;refine nx J19 (CY (sr λ_ J21=>P3 ?_));exact nx J21 (ai (ae (WK [] (mY rfl rfl rfl rfl (.inl ⟨mh ht (.inr (.inl h58)),rfl,rfl⟩)))))
 iterate 5 refine PS ?_
 refine an ?_ ?_<;>intro h63;refine P2 ?_;refine UT ?_;refine UT ?_;refine PS ?_;refine nx J19 (CY (sr λ_ J22=>P3 ?_));exact nx J22 (ai (ae (WK [] (mY rfl rfl rfl rfl (.inl ⟨mh ht (.inr (.inr (.inl h63))),rfl,rfl⟩)))));refine P4 ?_;refine an ?_ ?_<;>intro h67;refine PS ?_;refine nx J19 (CY (sr λ_ J23=>P3 ?_));exact nx J23 (ai (ae (WK [] (mY rfl rfl rfl rfl (.inl ⟨mh ht (.inr (.inr (.inr h67))),rfl,rfl⟩)))));refine PS ?_;refine nx J19 (CN (qx J18 (sr λ_ J24=>P2 ?_)));refine tp (ci (r:=((7+(t.getD 6 0).toNat:Nat):Int)) rfl rfl rfl (by rw[show(7:Int)+(((t.getD 6 0).toNat:Nat):Int)=((7+(t.getD 6 0).toNat:Nat):Int)by omega];have:=UInt8.toNat_lt (n:=t.getD 6 0);exact bI (by omega) (by omega))) ?_;refine tp (Oz (PV.sliceLH (a:=some ⟨g,0,none⟩) (len:=t.length) (cap:=cap) (lo:=7) (hi:=7+(t.getD 6 0).toNat) rfl gp k0 (by rw[←hv];rfl) rfl rfl rfl rfl (by omega) (by omega)) (congrArg (λq=>jM q 7 (7+(t.getD 6 0).toNat)) hv.symm)) ?_;refine P4 ?_;refine nx J24 (ai (aF (H':=[gx (jM u 7 (7+(t.getD 6 0).toNat)) ((t.drop 7).take (t.getD 6 0).toNat) 5]) (di _) (λ_ s'=>ak [0] rfl (vu 0 rfl rfl hv (by omega) (by omega) (by omega) (by rw[oe,cj]) s')) (mY rfl rfl rfl rfl ?_)));obtain rfl:k=4:=by omega
 have h1:s.getD 63 0=1:=UInt8.toNat_inj.1 (by have h1':(1:UInt8).toNat=1:=rfl;omega);exact .inr ⟨_,_,_,Bd ht h1 (by omega),rfl,rfl⟩
end Go.Proofs.YtjblgopghhgflaaGreat
end

section
namespace Wal
open Go Leg Codec Api Dsk
theorem tw(i:Nat){us:List Value}{ls:List (List UInt8)}{e k:Nat}{B:List HP}{F:Hl}(hk:k<ls.length)(hi:Nat.blt i B.length=true)(hH:B.getD i (λ_=>True)=eA us ls e): ∀g,Dj g F→bE B g→IsB (us.getD k undef) ls[k] (jn g F):=λg d s=>by
 obtain⟨h1,h2,d',rfl,a,_⟩:=eW i (lb hi) s;rw[hH]at a;obtain⟨hl,a⟩:=a;obtain⟨u,e1,k1,k2,dk,rfl,a3⟩:=wP us ls e _ hl a k hk;rw[List.getD_eq_getElem?_getD,e1];exact AH a3 λb o e=>gL (gL (gL e))
theorem In.read{s ws:fA}(h1:In s)(h2:In ws)(at':Int)(h: ¬(0≤at'∧at'<2048)): ∀k,k≤ws.length→iX s ws at' k=zs
 |0,_=>by
  show iy s at'=zs
  induction s with
  |nil=>rfl
  |cons p s ih=>
   obtain⟨a,b⟩:=p;simp only[iy];have hh:=h1 (a,b) (by simp);rw[if_neg (λe=>h (by simp only at hh;omega))];exact ih λq hq=>h1 q (by simp[hq])
 |k+1,hk=>by
  simp only[iX];rw[if_neg,In.read h1 h2 at' h k (by omega)];intro e;rw[u9 (by omega)]at e;have hh:=h2 ws[k] (dW _);exact h (by omega)
theorem DS.In.read{D:DS}(h:Wal.DS.In D){at':Int}(h2: ¬(0≤at'∧at'<2048)):D.read at'=zs:=Wal.In.read h.1 h.2 at' h2 _ (aK _)
theorem FT(number place:Int):fi zs number place=none:=qO (by decide)
theorem wi{rd:Int→jP}{number at' all:Int}: ∀(m:Nat) {b:List UInt8},kC rd number at' all m=some b→∀k,k<m→∃x,fi (rd (at'+k)) number k=some (x,all)
 |0,_,_,k,hk=>by omega
 |m+1,b,h,k,hk=>by
  simp only[kC]at h;split at h
  · cases h
  · rename_i b' hb
    split at h
    · cases h
    · rename_i x same hx
      split at h
      · rename_i hs
        by_cases e:k=m
        · subst e;exact⟨x,by rw[hx,hs]⟩
        · exact wi m hb k (by omega)
      · cases h
theorem k8{rd:Int→jP}{number at' all:Int}{b:List UInt8}(hl:(rd at').length=64)(h:fI rd number at'=some (b,all)):0<all∧all≤255∧∀k:Nat,(k:Int)<all→∃x,fi (rd (at'+k)) number k=some (x,all):=by
 unfold fI at h;split at h
 · cases h
 · rename_i x al hp
   obtain⟨f1,f2,_⟩:=oz hl hp;obtain⟨c,hc,e⟩:=Option.map_eq_some_iff.1 h;injection e with e1 e2
   subst e1;subst e2;exact⟨f1,f2,λk hk=>wi _ hc k (by omega)⟩
theorem oo{D:DS}(hI:Wal.DS.In D)(hD:D.Ok){number at' all:Int}{b:List UInt8}(h0:0≤at')(h:fI D.read number at'=some (b,all)):at'+all≤2048:=by
 obtain⟨f1,f2,f3⟩:=k8 (lO hD _) h;obtain⟨x,hx⟩:=f3 (all-1).toNat (by omega)
 by_cases q:at'+all≤2048
 · exact q
 · rw[DS.In.read hI (by omega),FT]at hx;cases hx
theorem x9{rd:Int→jP}{f:Nat}{cnt used:Int}(h:fI rd (cnt+1) used=none):fQ rd f cnt used=([],used):=by
 cases f with
 |zero=>rfl
 |succ f=>simp only[fQ,h]
theorem Em{rd:Int→jP}{f:Nat}{cnt used all:Int}{b:List UInt8}(h:fI rd (cnt+1) used=some (b,all)):fQ rd (f+1) cnt used=(b::(fQ rd f (cnt+1) (used+all)).1,(fQ rd f (cnt+1) (used+all)).2):=by simp only[fQ,h]
def Scan(D:DS)(f:Nat)(rs:List (List UInt8))(used:Int):Prop:=
 fQ D.read jf 0 0=(rs++(fQ D.read f rs.length used).1,(fQ D.read f rs.length used).2)∧0≤used∧used≤2048∧2049≤(f:Int)+used∧(rs.length:Int)≤used
theorem Scan.start(D:DS):Scan D jf [] 0:=by
 refine⟨?_,by omega,by omega,by rw[sy];omega,by simp⟩;have e:((([]:List (List UInt8)).length:Nat):Int)=0:=rfl;rw[be,e]
theorem Scan.next{D:DS}(hI:Wal.DS.In D)(hD:D.Ok){f:Nat}{rs:List (List UInt8)}{used all:Int}{b:List UInt8}(h:Scan D f rs used)(h2:fI D.read ((rs.length:Int)+1) used=some (b,all)): ∃f',f=f'+1∧Scan D f' (rs++[b]) (used+all):=by
 obtain⟨h1,h0,h3,h4,h5⟩:=h;have hr:=oo hI hD h0 h2;have hf:=(k8 (lO hD _) h2).1;obtain⟨f',rfl⟩: ∃f',f=f'+1:=⟨f-1,by omega⟩;refine⟨f',rfl,?_,by omega,by omega,by omega,by simp;omega⟩;rw[h1,Em h2];simp
theorem Scan.stop{D:DS}{f:Nat}{rs:List (List UInt8)}{used:Int}(h:Scan D f rs used)(h2:fI D.read ((rs.length:Int)+1) used=none):fQ D.read jf 0 0=(rs,used):=by
 rw[h.1,x9 h2];simp
theorem Aq{D:DS}{at':Int}(h:2048≤at'):jw (2048-at').toNat at' D=(0,D):=by rw[show(2048-at').toNat=0 by omega];rfl
theorem E6{D:DS}{at':Int}(h:at'<2048)(h2:D.read at'=zs):jw (2048-at').toNat at' D=jw (2048- (at'+1)).toNat (at'+1) D:=by
 rw[show(2048-at').toNat=(2048- (at'+1)).toNat+1 by omega,jw,if_pos h2]
theorem IH{D:DS}{at':Int}(h:at'<2048)(h2:D.read at'≠zs)(h3:(D.write at' []).1=0):jw (2048-at').toNat at' D=jw (2048- (at'+1)).toNat (at'+1) (D.write at' []).2:=by
 rw[show(2048-at').toNat=(2048- (at'+1)).toNat+1 by omega,jw,if_neg h2,if_pos h3]
theorem E7{D:DS}{at':Int}(h:at'<2048)(h2:D.read at'≠zs)(h3:(D.write at' []).1≠0):jw (2048-at').toNat at' D=D.write at' []:=by
 rw[show(2048-at').toNat=(2048- (at'+1)).toNat+1 by omega,jw,if_neg h2,if_neg h3]
theorem Dd{D D':DS}{rs:List (List UInt8)}{used e:Int}(h:fQ D.read jf 0 0=(rs,used))(h2:jw (2048-used).toNat used D=(e,D'))(h3:e≠0):bL D=⟨e,[],0,D'⟩:=by
 simp only[bL,h,h2];rw[if_pos h3]
theorem Dc{D D':DS}{rs:List (List UInt8)}{used:Int}(h:fQ D.read jf 0 0=(rs,used))(h2:jw (2048-used).toNat used D=(0,D'))(h3:D'.sync.1≠0):bL D=⟨D'.sync.1,[],0,D'.sync.2⟩:=by
 simp only[bL,h,h2,ne_eq,not_true_eq_false,if_false];rw[if_pos h3]
theorem Eu{D D':DS}{rs:List (List UInt8)}{used:Int}(h:fQ D.read jf 0 0=(rs,used))(h2:jw (2048-used).toNat used D=(0,D'))(h3:D'.sync.1=0):bL D=⟨0,rs,used,D'.sync.2⟩:=by
 simp only[bL,h,h2,ne_eq,not_true_eq_false,if_false];rw[if_neg (by simp[h3])]
def gK:List jP→Int→DS→Int×DS
 | [],_,D=>(0,D)
 |s::ss,at',D=>if(D.write at' s).1=0 then gK ss (at'+1) (D.write at' s).2 else D.write at' s
structure PutR where
 err:Int
 cnt:Nat
 used:Int
 D:DS
def oy(D:DS)(cnt:Nat)(used:Int)(bs:List UInt8):PutR:=
 if 3000<bs.length then⟨2,cnt,used,D⟩
 else if(bu bs.length:Int)>2048-used then⟨3,cnt,used,D⟩
 else
  let w:=gK (cg ((cnt+1:Nat):Int) bs) used D
  if w.1≠0 then⟨w.1,cnt,used,w.2⟩else if w.2.sync.1≠0 then⟨w.2.sync.1,cnt,used,w.2.sync.2⟩else⟨0,cnt+1,used+bu bs.length,w.2.sync.2⟩
theorem An{ss:List jP}{at':Int}{D:DS}{k:Nat}(hk:k<ss.length)(h:(D.write (at'+k) ss[k]).1=0):gK (ss.drop k) (at'+k) D=gK (ss.drop (k+1)) (at'+(k+1:Nat)) (D.write (at'+k) ss[k]).2:=by
 rw[dp hk,gK,if_pos h];congr 1;omega
theorem Ao{ss:List jP}{at':Int}{D:DS}{k:Nat}(hk:k<ss.length)(h:(D.write (at'+k) ss[k]).1≠0):gK (ss.drop k) (at'+k) D=D.write (at'+k) ss[k]:=by
 rw[dp hk,gK,if_neg h]
section
variable {D D':DS} {cnt:Nat} {used:Int} {bs:List UInt8}
theorem Hc(h:3000<bs.length):oy D cnt used bs=⟨2,cnt,used,D⟩:=by rw[oy,if_pos h]
theorem Hd(h: ¬3000<bs.length)(h2:(bu bs.length:Int)>2048-used):oy D cnt used bs=⟨3,cnt,used,D⟩:=by rw[oy,if_neg h,if_pos h2]
theorem FN{e:Int}(h: ¬3000<bs.length)(h2: ¬(bu bs.length:Int)>2048-used)(h3:gK (cg ((cnt+1:Nat):Int) bs) used D=(e,D'))(h4:e≠0):oy D cnt used bs=⟨e,cnt,used,D'⟩:=by
 rw[oy,if_neg h,if_neg h2];simp only[h3];rw[if_pos h4]
theorem FM(h: ¬3000<bs.length)(h2: ¬(bu bs.length:Int)>2048-used)(h3:gK (cg ((cnt+1:Nat):Int) bs) used D=(0,D'))(h4:D'.sync.1≠0):oy D cnt used bs=⟨D'.sync.1,cnt,used,D'.sync.2⟩:=by
 rw[oy,if_neg h,if_neg h2];simp only[h3,ne_eq,not_true_eq_false,if_false];rw[if_pos h4]
theorem put_ok(h: ¬3000<bs.length)(h2: ¬(bu bs.length:Int)>2048-used)(h3:gK (cg ((cnt+1:Nat):Int) bs) used D=(0,D'))(h4:D'.sync.1=0):oy D cnt used bs=⟨0,cnt+1,used+bu bs.length,D'.sync.2⟩:=by
 rw[oy,if_neg h,if_neg h2];simp only[h3,ne_eq,not_true_eq_false,if_false];rw[if_neg (by simp[h4])]
end
end Wal
end

section
namespace Go.Proofs.YtjblgopghhgflaaGreat
open Go Leg Codec Api Dsk Wal
abbrev EO(lg d:Nat)(cnt used:Int):HP:=ah lg [.pointer (some ⟨d,0,none⟩), .int .i64 cnt, .int .i64 used] 210
abbrev Ns(v:Value)(ls:List (List UInt8)):HP:=l7 93 5 v ls
theorem AR(d:Nat)(D:DS)(number at':Int)(hD:D.Ok)(hb:D.ws.length≤1000000000)(ha:0≤at'∧at'≤1000000):
 DT 129 #[(.pointer (some ⟨d,0,none⟩)),(.int .i64 (number)),(.int .i64 (at'))] T0 [dk d (D)] (dm (λv H=>(fI D.read number at'=none∧v= .tuple #[.slice none 0 0, .int .i64 0, .bool false]∧H=[dk d D])∨∃b all u,fI D.read number at'=some (b,all)∧v= .tuple #[u, .int .i64 all, .bool true]∧H=[gx u b 5,dk d D])):=by
 refine BD 56 Tryz.func129 rfl rfl rfl λw0 F hF=>sr λ_ J1=>P3 ?_
 refine nx J1 (sr λ_ J2=>P2 ?_);refine CR Hw (zT d (D) at' hD hb) ID λvR HR hR=>?_
 obtain⟨hv,rfl⟩:=hR;subst hv;refine PS ?_;refine CR JX (vV ((D).read at') number 0 (lO hD _)) ID λvR HR hR=>?_
 rcases hR with⟨hp,rfl,rfl⟩| ⟨b,all,u,hp,rfl,rfl⟩
 refine P4 ?_;refine P3 ?_;refine nx J2 (ab λ_ J3=>sr λ_ J4=>PS ?_);refine PS ?_;refine nx J4 (CY (sr λ_ J5=>P3 ?_));exact nx J5 (ai (ae (WK [0] (mY rfl rfl rfl rfl (.inl ⟨qk hp,rfl,rfl⟩)))));refine TL.subLen 0 rfl rfl (λhul hu=>?_);have hpf:=oz (lO hD _) hp;refine P4 ?_;refine P3 ?_;refine nx J2 (ab λ_ J6=>sr λ_ J7=>PS ?_);refine PS ?_;refine nx J7 (CN (qx J6 (ab λ_ J8=>sr λ_ J9=>PS ?_)));refine nx J9 (aq ?_)
 refine bp (α:=(Nat)×(List UInt8)×(Value)) (λ⟨k,c,w⟩=>1≤k∧k≤all.toNat∧kC D.read number at' all k=some c∧c.length≤k*52∧w.oneCell'=true) (λ⟨k,c,w⟩=>[(0,(.pointer (some ⟨d,0,none⟩))),(1,(.int .i64 (number))),(2,(.int .i64 (at'))),(9,w),(10,(.int .i64 (all))),(12,(.int .i64 (((k:Nat):Int))))]) (λ⟨k,c,w⟩=>[gx w (c) 5,dk d (D)]) (λ⟨k,c,w⟩=>all.toNat-k) (1,b,u)
  ⟨aK _,by omega,F7 hp,by omega,hu⟩ SB
  (λ_ s=>s) (λ⟨k,c,w⟩ hinv=>?_)
 obtain⟨hk1,hk2,hk3,hk4,hw⟩:=hinv;refine ab λ_ J10=>sr λ_ J11=>P3 ?_
 refine an ?_ ?_<;>intro h29;refine nx J11 (CY (qx J10 (ab λ_ J12=>aq (sr λ_ J13=>P3 ?_))));refine AD ?_;refine CR Hw (zT d (D) (at'+((k:Nat):Int)) hD hb) (SM [1]) λvR HR hR=>?_
 obtain⟨hv,rfl⟩:=hR;subst hv;refine P2 ?_;refine CR JX (vV ((D).read (at'+((k:Nat):Int))) number ((k:Nat):Int) (lO hD _)) ID λvR HR hR=>?_
 rcases hR with⟨hp2,rfl,rfl⟩| ⟨b2,all2,u2,hp2,rfl,rfl⟩
 refine P4 ?_;refine P3 ?_;refine nx J13 (ab λ_ J14=>sr λ_ J15=>PS ?_);refine PS ?_;refine PS ?_
 iterate 3 refine UT ?_
 refine PS ?_;refine nx J15 (CY (sr λ_ J16=>P3 ?_));refine nx J16 (ai (ae (aH (ae (ae (aH (ae (WK [0] (mY rfl rfl rfl rfl ?_)))))))));exact .inl ⟨qj hp (wh (.inl hp2) _ (by omega)),rfl,rfl⟩;refine TL.subLen 0 rfl rfl (λhul2 hu2=>?_);have hpf2:=oz (lO hD _) hp2;refine P4 ?_;refine P3 ?_;refine nx J13 (ab λ_ J17=>sr λ_ J18=>PS ?_);refine PS ?_;refine P4 ?_;refine an ?_ ?_<;>intro h49;refine PS ?_;refine nx J18 (CY (sr λ_ J19=>P3 ?_));refine nx J19 (ai (ae (aH (ae (ae (aH (ae (WK [1] (mY rfl rfl rfl rfl ?_)))))))));exact .inl ⟨qj hp (wh (.inr ⟨b2,all2,hp2,h49⟩) _ (by omega)),rfl,rfl⟩;refine PS ?_;refine nx J18 (CN (qx J17 (ad (P2 ?_))));refine TL.appendS (k:=2) (news:=b2) (bs':=c++b2) (aa rfl) rfl rfl rfl gp yv rfl rfl rfl rfl (λ_ s=>Src.sub 0 rfl rfl s) (by omega) rfl (λv53 ov53=>PS ?_);refine ap (af (ac J12 (ad (PS ?_))));refine AD ?_;refine PS ?_;refine ap ?_
 exact aI ((k+1,c++b2,v53):(Nat)×(List UInt8)×(Value)) ⟨by omega,by omega,wj hk3 (by rw[hp2,show all2=all by omega]),by rw[aj];omega,ov53⟩ (by show all.toNat- (k+1)<all.toNat-k;omega)
  SB
  (λ_ s=>ak [2,1] rfl s)
 refine nx J11 (CN (aW (az (az (bm (ac J8 (sr λ_ J20=>?_)))))))
 iterate 5 refine PS ?_
 refine nx J20 (ai (WK [0,0] (mY rfl rfl rfl rfl ?_)));exact .inr ⟨c,all,w,rR hp (by rw[show all.toNat=k by omega];exact hk3),rfl,rfl⟩
theorem FF(lg d:Nat)(cnt used:Int)(h:0≤used∧used≤2048):
 DT 177 #[(.pointer (some ⟨lg,0,none⟩))] T0 [ah lg [(.pointer (some ⟨d,0,none⟩)),(.int .i64 (cnt)),(.int .i64 (used))] 210] (RI (.int .i64 (2048-used)) [EO lg d cnt used]):=by
 refine BD 8 Tryz.func177 rfl rfl rfl λw0 F hF=>sr λ_ J1=>PS ?_
 refine nx J1 (sr λ_ J2=>P2 ?_);refine FA 2 qg aQ ?_;refine LA 0 Y3 ?_;refine tp (iP rfl rfl rfl (bI (by omega) (by omega))) ?_;refine PS ?_;exact nx J2 (ai (WK [0] (au rfl rfl ⟨rfl,rfl⟩)))
theorem Aw(lg d cnt:Nat)(used:Int)(x:Value)(bs:List UInt8)(D:DS)(hD:D.Ok)(hb:D.ws.length≤1000000)(hu:0≤used∧used≤2048)(hc:cnt≤1000000):
 DT 166 #[(.pointer (some ⟨lg,0,none⟩)),x] (IsW x bs) [ah lg [(.pointer (some ⟨d,0,none⟩)),(.int .i64 (((cnt:Nat):Int))),(.int .i64 (used))] 210,dk d (D)] (RI (.int .i64 (oy D cnt used bs).err) [EO lg d (((oy D cnt used bs).cnt:Nat):Int) (oy D cnt used bs).used,dk d (oy D cnt used bs).D]):=by
 refine BD 72 Tryz.func166 rfl rfl rfl λw0 F hF=>sr λ_ J1=>PS ?_
 refine nx J1 (ab λ_ J2=>sr λ_ J3=>PS ?_);refine tp (dF rfl gp rfl hF.len) ?_;refine PS ?_;refine an ?_ ?_<;>intro h12;refine nx J3 (CY (sr λ_ J4=>PS ?_));refine nx J4 (ai (ae (WK [0,0] (au rfl rfl ?_))));rw[Hc (by omega)];exact⟨rfl,rfl⟩;refine nx J3 (CN (qx J2 (sr λ_ J5=>PS ?_)));refine tp (dF rfl gp rfl hF.len) ?_;refine CE JS (tT bs.length (by omega)) ID ?_;refine PS ?_;refine nx J5 (ab λ_ J6=>sr λ_ J7=>P2 ?_);refine CE Ml (FF lg d ((cnt:Nat):Int) used hu) ID ?_;refine PS ?_;refine an ?_ ?_<;>intro h19;refine nx J7 (CY (sr λ_ J8=>PS ?_));refine nx J8 (ai (ae (WK [0,0] (au rfl rfl ?_))));rw[Hd (by omega) (by omega)];exact⟨rfl,rfl⟩;refine nx J7 (CN (qx J6 (ab λ_ J9=>sr λ_ J10=>P2 ?_)));refine FA 1 qg aQ ?_;refine LA 0 Y3 ?_;refine tp (Oz (v':=(.int .i64 (((cnt+1:Nat):Int)))) (ci rfl rfl rfl (bI (by omega) (by omega))) rfl) ?_;refine PS ?_;refine CQ Mk (zf x (cnt+1) bs (by omega)) ID (λg d _=>Nd hF d) λvR HR hR=>?_
 have hR:=hR;subst hR;change TL _ _ _ _ _ _ _ _ _ [l7 93 5 vR (cg ((cnt+1:Nat):Int) bs),ah lg [(.pointer (some ⟨d,0,none⟩)),(.int .i64 (((cnt:Nat):Int))),(.int .i64 (used))] 210,dk d (D)];refine TL.recsLen 0 rfl rfl (λhrl hro=>?_);rw[eB]at hrl;refine tp (dF rfl uG rfl hrl) ?_;refine PS ?_;refine nx J10 (aq ?_)
 refine bp (α:=(Nat)×(DS)) (λ⟨k,D'⟩=>k≤bu bs.length∧gK (cg ((cnt+1:Nat):Int) bs) used D=gK ((cg ((cnt+1:Nat):Int) bs).drop k) (used+(k:Nat)) D'∧D'.Ok∧D'.ws.length≤D.ws.length+k) (λ⟨k,D'⟩=>[(0,(.pointer (some ⟨lg,0,none⟩))),(5,(.int .i64 (((bu bs.length:Nat):Int)))),(26,vR),(27,(.int .i64 ((((bu bs.length):Nat):Int)))),(28,(.int .i64 (((k:Nat):Int))))]) (λ⟨k,D'⟩=>[ah lg [(.pointer (some ⟨d,0,none⟩)),(.int .i64 (((cnt:Nat):Int))),(.int .i64 (used))] 210,dk d (D'),l7 93 5 vR (cg ((cnt+1:Nat):Int) bs)]) (λ⟨k,D'⟩=>bu bs.length-k) (0,D)
  ⟨aO _,by simp,hD,by omega⟩ SB
  (λ_ s=>aC [1,1,0] rfl s) (λ⟨k,D'⟩ hinv=>?_)
 obtain⟨hk,hwr,hD',hws⟩:=hinv;refine sr λ_ J11=>PS ?_
 refine an ?_ ?_<;>intro h29;refine cr (λ_ s=>aC [2] rfl s) (Ks (λus=>?_));change TL _ _ _ _ _ _ _ _ _ [own vR ((cg ((cnt+1:Nat):Int) bs).length) (us) 93 1,eA us (cg ((cnt+1:Nat):Int) bs) 5,ah lg [(.pointer (some ⟨d,0,none⟩)),(.int .i64 (((cnt:Nat):Int))),(.int .i64 (used))] 210,dk d (D')];refine xE (p:=us.length=(cg ((cnt+1:Nat):Int) bs).length*1) (λw m=>m.own_len (i:=0) (lb rfl) rfl) (λhul=>?_);rw[eB,fH]at hul;have hkl:k< (cg ((cnt+1:Nat):Int) bs).length:=by rw[eB];omega
 obtain⟨sk,hsk⟩: ∃x,(cg ((cnt+1:Nat):Int) bs)[k]=x:=⟨_,rfl⟩;refine jO 0 rfl rfl (by omega) (λg cap hv hcap=>nx J11 (ab λ_ J12=>CY (qx J12 (ab λ_ J13=>aq (sr λ_ J14=>PS ?_)))));refine tp (bT (r:=k) hv rfl uG nr rfl rfl (by omega) (by omega) (by omega)) ?_;refine tp (c7 (v:=(us.getD k undef)) rfl gp rfl rfl (fZ 0 rfl hv rfl) (by simp[List.getD_eq_getElem?_getD,show k<us.length by omega])) ?_;refine P2 ?_;refine nx J14 (ab λ_ J15=>D1 2 dB ?_);refine PD 0 ?_;refine PD 1 ?_;refine FD 2 0 qg oM ?_;refine LX 3 sM (.pointer (some ⟨d,0,none⟩)) ?_ (hc:=by exact rfl);refine PD 4 ?_;refine PD 5 ?_;refine FD 6 2 qg aQ ?_;refine LX 7 Y3 (.int .i64 (used)) ?_ (hc:=by exact rfl);refine PD 8 ?_;refine ta 9 rfl (ci rfl rfl rfl (bI (by omega) (by omega))) ?_;refine PD 10 ?_;refine AL 11 ?_;refine CQ KR (wJ d D' (used+((k:Nat):Int)) (us.getD k undef) sk hD' (by omega)) (SM [3]) (λg d s=>Iy (hsk▸tw 1 hkl rfl rfl g d s)) λvR HR hR=>?_
 obtain⟨hv2,rfl⟩:=hR;subst hv2;refine EN (PD 12 ?_);refine DN (ac J15 (sr λ_ J16=>P2 ?_));refine an ?_ ?_<;>intro h46;refine nx J16 (CY (sr λ_ J17=>P2 ?_));refine nx J17 (ai (aH (ae (ae (aH (ae (WK [3,0] (au rfl rfl ?_))))))));have hf:=Ao (D:=D') (at':=used) hkl (by rw[hsk];exact h46);rw[hsk]at hf;rw[FN (by omega) (by omega) (hwr.trans hf) h46];exact⟨rfl,rfl⟩;refine nx J16 (CN (aR (af (ac J13 (ad (AD ?_))))));refine PS ?_;refine ap ?_
 exact aI ((k+1,(D'.write (used+((k:Nat):Int)) sk).2):(Nat)×(DS)) ⟨by omega,by rw[hwr];subst hsk;exact An hkl (by simpa using h46),DS.write_ok hD' _ _,by have:=DS.write_ws (D:=D') (at':=used+((k:Nat):Int)) (bs:=sk);omega⟩ (by show bu bs.length- (k+1)<bu bs.length-k;omega)
  SB
  (λ_ s=>aC [1,1,0] rfl (bj (p:=λus:List Value=>[own vR (cg ((cnt+1:Nat):Int) bs).length us 93 1,eA us (cg ((cnt+1:Nat):Int) bs) 5]) us (ak [1,1,1,0] rfl s)))
 refine nx J11 (ab λ_ J18=>CN (aW (az (az (bm (ac J9 (ab λ_ J19=>sr λ_ J20=>P2 ?_)))))));refine FA 0 qg oM ?_;refine LA 0 sM ?_;refine CR KQ (zS d (D') hD') (SM [1]) λvR HR hR=>?_
 obtain⟨hv,rfl⟩:=hR;subst hv;refine PS ?_;refine nx J20 (sr λ_ J21=>P2 ?_);refine an ?_ ?_<;>intro h55;refine nx J21 (CY (sr λ_ J22=>P2 ?_));refine nx J22 (ai (ae (WK [1,0] (au rfl rfl ?_))));have hf:gK (cg ((cnt+1:Nat):Int) bs) used D=(0,D'):=by rw[hwr,cF (by rw[eB];omega)];rfl
 rw[FM (by omega) (by omega) hf h55];exact⟨rfl,rfl⟩;refine nx J21 (CN (qx J19 (sr λ_ J23=>P2 ?_)));refine FA 1 qg aQ ?_;refine LA 1 Y3 ?_;refine AD ?_;refine PS ?_;refine FA 1 qg aQ ?_;refine S0 1 aQ ?_;refine nx J23 (sr λ_ J24=>P2 ?_);refine FA 2 qg aQ ?_;refine LA 1 Y3 ?_;refine PS ?_;refine AD ?_;refine PS ?_;refine FA 2 qg aQ ?_;refine S0 1 aQ ?_;refine nx J24 (sr λ_ J25=>PS ?_);refine nx J25 (ai (WK [1,0] (au rfl rfl ?_)));have hf:gK (cg ((cnt+1:Nat):Int) bs) used D=(0,D'):=by rw[hwr,cF (by rw[eB];omega)];rfl
 rw[put_ok (by omega) (by omega) hf (by simpa using h55)];exact⟨rfl,rfl⟩
theorem FZ(d:Nat)(D:DS)(hD:D.Ok)(hI:Wal.DS.In D)(hb:D.ws.length≤1000000):
 DT 92 #[(.pointer (some ⟨d,0,none⟩))] T0 [dk d (D)] (dm (λv H=>((bL D).err≠0∧v= .tuple #[.pointer none, .slice none 0 0, .int .i64 (bL D).err]∧H=[dk d (bL D).D])∨((bL D).err=0∧∃lg vr,v= .tuple #[.pointer (some ⟨lg,0,none⟩),vr, .int .i64 0]∧H=[EO lg d (((bL D).recs.length:Nat):Int) (bL D).used,Ns vr (bL D).recs,dk d (bL D).D]))):=by
 refine BD 80 Tryz.func92 rfl rfl rfl λw0 F hF=>sr λ_ J1=>P3 ?_
 refine nx J1 (ab λ_ J2=>sr λ_ J3=>PS ?_);refine tp (iQ rfl sM rfl rfl) ?_;refine nx J3 (CN (qx J2 (sr λ_ J4=>PS ?_)));refine BV #[(.pointer (some ⟨d,0,none⟩)),(.int .i64 0),(.int .i64 0)] ?_;refine XB λb17=>?_
 refine PS ?_;refine nx J4 (sr λ_ J5=>PS ?_);refine nx J5 (ab λ_ J6=>aq ?_)
 refine bp (α:=(Nat)×(List (List UInt8))×(Int)×(Value)) (λ⟨f,rs,used,vr⟩=>Scan D f rs used∧vr.oneCell'=true) (λ⟨f,rs,used,vr⟩=>[(0,(.pointer (some ⟨d,0,none⟩))),(2,(.pointer none)),(3,(.slice none 0 0)),(4,(.int .i64 0)),(5,(.pointer (some ⟨b17,0,none⟩))),(6,vr)]) (λ⟨f,rs,used,vr⟩=>[ah b17 [(.pointer (some ⟨d,0,none⟩)),(.int .i64 (((rs.length:Nat):Int))),(.int .i64 (used))] 210,dk d (D),l7 93 5 vr (rs)]) (λ⟨f,rs,used,vr⟩=>f) (jf,[],0,(.slice none 0 0))
  ⟨Scan.start D,rfl⟩ SB
  (λ_ s=>eg (List.Perm.trans (List.Perm.swap _ _ _) (List.Perm.cons _ (List.Perm.swap _ _ _))) (tL 93 5 s)) (λ⟨f,rs,used,vr⟩ hinv=>?_)
 obtain⟨hsc,hvr⟩:=hinv;obtain⟨hs1,hs2,hs3,hs4,hs5⟩:=id hsc;refine aq (ab λ_ J7=>D1 0 dB ?_);refine PD 0 ?_;refine PD 1 ?_;refine PD 2 ?_;refine FD 3 1 qg aQ ?_;refine LX 4 Y3 (.int .i64 (((rs.length:Nat):Int))) ?_ (hc:=by exact rfl);refine ta 5 rfl (ci rfl rfl rfl (bI (by omega) (by omega))) ?_;refine PD 6 ?_;refine PD 7 ?_;refine FD 8 2 qg aQ ?_;refine LX 9 Y3 (.int .i64 (used)) ?_ (hc:=by exact rfl);refine AL 10 ?_;refine CR MJ (AR d D (((rs.length:Nat):Int)+1) used hD (by omega) (by omega)) (SM [1]) λvR HR hR=>?_
 rcases hR with⟨hst,rfl,rfl⟩| ⟨b,all,u,hst,rfl,rfl⟩
 have hss:=Scan.stop hsc hst;refine EN (PD 11 ?_);refine PD 12 ?_;refine PD 13 ?_;refine PD 14 ?_;refine PD 15 ?_;refine PD 16 ?_;refine PD 17 ?_;refine DN (ac J7 (ab λ_ J8=>sr λ_ J9=>PS ?_));refine PS ?_;refine nx J9 (CY (aW (az (TE.miss (by decide) (az (bm (ac J6 (ab λ_ J10=>sr λ_ J11=>P2 ?_))))))));refine FA 2 qg aQ ?_;refine LA 1 Y3 ?_;refine PS ?_;refine nx J11 (aq ?_)
 refine bp (α:=(Int)×(DS)) (λ⟨at',D'⟩=>used≤at'∧at'≤2048∧jw (2048-used).toNat used D=jw (2048-at').toNat at' D'∧D'.Ok∧D'.ws.length≤D.ws.length+(at'-used).toNat) (λ⟨at',D'⟩=>[(0,(.pointer (some ⟨d,0,none⟩))),(5,(.pointer (some ⟨b17,0,none⟩))),(6,vr),(10,(.int .i64 (at')))]) (λ⟨at',D'⟩=>[ah b17 [(.pointer (some ⟨d,0,none⟩)),(.int .i64 (((rs.length:Nat):Int))),(.int .i64 (used))] 210,dk d (D'),l7 93 5 vr (rs)]) (λ⟨at',D'⟩=>(2048-at').toNat) (used,D)
  ⟨by omega,by omega,rfl,hD,by omega⟩ SB
  (λ_ s=>ak [1,0,0] rfl s) (λ⟨at',D'⟩ hinv=>?_)
 obtain⟨ha1,ha2,hwi,hD',hws⟩:=hinv;refine ab λ_ J12=>sr λ_ J13=>P2 ?_
 refine an ?_ ?_<;>intro h59;refine nx J13 (CY (qx J12 (ab λ_ J14=>aq (ab λ_ J15=>sr λ_ J16=>P2 ?_))));refine CR Hw (zT d (D') at' hD' (by omega)) (SM [1]) λvR HR hR=>?_
 obtain⟨hv,rfl⟩:=hR;subst hv;refine BV ((eb zs).toArray) ?_;refine tp (PV.eqlBy (a:=((D').read at')) (b:=zs) (m:=2) JJ JH rfl JK JM JL (lO hD' _) (by decide) rfl rfl rfl) ?_;refine an ?_ ?_<;>intro h66;refine nx J16 (CY (aW (az (bm (ac J14 (ad (PS ?_)))))));refine AD ?_;refine PS ?_;refine ap ?_
 exact aI ((at'+1,D'):(Int)×(DS)) ⟨by omega,by omega,by rw[hwi];exact E6 (by omega) h66,hD',by omega⟩ (by show(2048- (at'+1)).toNat< (2048-at').toNat;omega)
  SB
  (λ_ s=>ak [1,0,0] rfl s)
 refine nx J16 (CN (qx J15 (sr λ_ J17=>P2 ?_)));refine CQ KR (wJ d (D') at' (.slice none 0 0) ([]) hD' (by omega)) ID (λ_ _ _=> .inl (.inl ⟨rfl,rfl⟩)) λvR HR hR=>?_
 obtain⟨hv,rfl⟩:=hR;subst hv;refine PS ?_;refine nx J17 (sr λ_ J18=>P2 ?_);refine an ?_ ?_<;>intro h71;refine nx J18 (CY (sr λ_ J19=>P4 ?_));refine nx J19 (ai (aH (ae (ae (aH (ae (WK [0] (mY rfl rfl rfl rfl ?_))))))));rw[Dd hss (hwi.trans (E7 (by omega) h66 h71)) h71];exact .inl ⟨h71,rfl,rfl⟩;refine nx J18 (CN (aR (af (ac J14 (ad (PS ?_))))));refine AD ?_;refine PS ?_;refine ap ?_
 exact aI ((at'+1,(D'.write at' []).2):(Int)×(DS)) ⟨by omega,by omega,by rw[hwi];exact IH (by omega) h66 (by simpa using h71),DS.write_ok hD' _ _,by have:=DS.write_ws (D:=D') (at':=at') (bs:=[]);omega⟩ (by show(2048- (at'+1)).toNat< (2048-at').toNat;omega)
  SB
  (λ_ s=>ak [1,0,0] rfl s)
 refine nx J13 (CN (aW (az (az (bm (ac J10 (ab λ_ J20=>sr λ_ J21=>PS ?_)))))));refine CR KQ (zS d (D') hD') (SM [1]) λvR HR hR=>?_
 obtain⟨hv,rfl⟩:=hR;subst hv;refine PS ?_;refine nx J21 (sr λ_ J22=>P2 ?_);refine an ?_ ?_<;>intro h76;refine nx J22 (CY (sr λ_ J23=>P4 ?_));refine nx J23 (ai (ae (WK [0] (mY rfl rfl rfl rfl ?_))));rw[Dc hss (hwi.trans (Aq (by omega))) h76];exact .inl ⟨h76,rfl,rfl⟩;refine nx J22 (CN (qx J20 (sr λ_ J24=>?_)))
 iterate 5 refine PS ?_
 refine nx J24 (ai (WK [1,1,0] (mY rfl rfl rfl rfl ?_)));have h76':D'.sync.1=0:=by omega
 rw[Eu hss (hwi.trans (Aq (by omega))) h76'];exact .inr ⟨rfl,b17,vr,rfl,rfl⟩;have hro:=oo hI hD (by omega) hst;have hfa:=(k8 (lO hD _) hst).1;obtain⟨f',rfl,hsn⟩:=Scan.next hI hD hsc hst;refine TL.subLen 0 rfl rfl (λhul hu=>EN (PD 11 ?_));refine PD 12 ?_;refine PD 13 ?_;refine PD 14 ?_;refine PD 15 ?_;refine PD 16 ?_;refine PD 17 ?_;refine DN (ac J7 (ab λ_ J25=>sr λ_ J26=>PS ?_));refine PS ?_;refine nx J26 (CN (qx J25 (sr λ_ J27=>P2 ?_)));refine aU (cells:=#[u]) (aa rfl) rfl rfl rfl uG Gi rfl rfl rfl (sB hu (by simp)) (λb37=>?_);change TL _ _ _ _ _ _ _ _ _ [ah b37 [u] 93,gx u (b) 5,dk d (D),ah b17 [(.pointer (some ⟨d,0,none⟩)),(.int .i64 (((rs.length:Nat):Int))),(.int .i64 (used))] 210,l7 93 5 vr (rs)];refine cr (λ_ s=>aC [4] rfl s) (Ks (λus38=>cH (k:=0) (m:=1) (news:=[u]) (nn':=(rs).length+1) (xs':=us38++[u]) (aa rfl) rfl rfl rfl uG Gi rfl rfl rfl rfl rfl rfl (λ_ _=>ju rfl (RO 2) rfl) (List.forall_mem_cons.2 ⟨hu,λ_ h=>by cases h⟩) (by simp only[maxLen];omega) (by omega) rfl rfl (λv38 ov38=>?_)));change TL _ _ _ _ _ _ _ _ _ [own v38 ((rs).length+1) (us38++[u]) 93 1,eA us38 (rs) 5,ah b37 [u] 93,gx u (b) 5,dk d (D),ah b17 [(.pointer (some ⟨d,0,none⟩)),(.int .i64 (((rs.length:Nat):Int))),(.int .i64 (used))] 210]
 refine cr (H':=[own v38 ((rs).length+1) (us38++[u]) 93 1,eA us38 (rs) 5,gx u (b) 5,ah b37 [u] 93,dk d (D),ah b17 [(.pointer (some ⟨d,0,none⟩)),(.int .i64 (((rs.length:Nat):Int))),(.int .i64 (used))] 210]) (λ_ s=>aC [0,0,1] rfl s) (cr (λ_ s=>tN s) (PS ?_));refine nx J27 (sr λ_ J28=>P2 ?_);refine FA 1 qg aQ ?_;refine LA 3 Y3 ?_;refine tp (Oz (v':=(.int .i64 ((((rs++[b]).length:Nat):Int)))) (ci rfl rfl rfl (bI (by omega) (by omega))) (congrArg (Value.int .i64) (by simp))) ?_;refine PS ?_;refine FA 1 qg aQ ?_;refine S0 3 aQ ?_;refine nx J28 (ad (P2 ?_));refine FA 2 qg aQ ?_;refine LA 3 Y3 ?_;refine PS ?_;refine AD ?_;refine PS ?_;refine FA 2 qg aQ ?_;refine S0 3 aQ ?_;refine ap (af ?_)
 exact aI ((f',rs++[b],used+all,v38):(Nat)×(List (List UInt8))×(Int)×(Value)) ⟨hsn,ov38⟩ (Nat.lt_succ_self _)
  SB
  (λ_ s=>ak [3,2,0] rfl s)
end Go.Proofs.YtjblgopghhgflaaGreat
end

section
namespace Wal
open Go Leg Codec Api Dsk
theorem AT(s ws:fA)(j:Int): ∀k,iy (Bw s ws k) j=iX s ws j k
 |0=>rfl
 |k+1=>by
  rw[Bw,iX,G0,AT s ws j k]
  by_cases h:j=(kJ ws k).1
  · rw[if_pos h,if_pos h.symm]
  · rw[if_neg h,if_neg (λq=>h q.symm)]
theorem GP{ws x:fA}{k:Nat}(h:k<ws.length):kJ (ws++x) k=kJ ws k:=by simp[kJ,List.getD_eq_getElem?_getD,List.getElem?_append_left h]
theorem vK{s ws x:fA}{j:Int}: ∀k,k≤ws.length→iX s (ws++x) j k=iX s ws j k
 |0,_=>rfl
 |k+1,h=>by rw[iX,iX,GP (by omega),vK k (by omega)]
theorem FL(s ws:fA)(p:Int×jP)(j:Int):iX s (ws++[p]) j (ws++[p]).length=if j=p.1 then p.2 else iX s ws j ws.length:=by
 rw[aj,ay,aD,bl,iX,vK _ (aK _)];have:kJ (ws++[p]) ws.length=p:=by simp[kJ,List.getD_eq_getElem?_getD]
 rw[this]
 by_cases h:j=p.1
 · rw[if_pos h,if_pos h.symm]
 · rw[if_neg h,if_neg (λq=>h q.symm)]
def zq(D:DS)(at':Int)(bs:List UInt8):DS:= {D with ws:=D.ws++[(at',eM bs)],lf:=if D.ar=true then D.lf-1 else D.lf,dn:=false}
theorem qz{D:DS}{at':Int}{bs:List UInt8}(h1:0≤at'∧at'<2048)(h2:bs.length≤64)(h3:D.dn=false)(h4:D.ar=false∨0<D.lf):D.write at' bs=(0,zq D at' bs):=by
 rw[DS.write,if_neg (by omega),if_neg]
 · rfl
 · rintro (h| ⟨h,h5⟩)
   · rw[h3]at h;cases h
   · rcases h4 with h4|h4
     · rw[h4]at h;cases h
     · omega
theorem Cv{D:DS}{at':Int}{bs:List UInt8}(h1:0≤at'∧at'<2048)(h2:bs.length≤64)(h4:D.ar=true∧D.lf=0):D.write at' bs=(4,{D with dn:=true}):=by
 rw[DS.write,if_neg (by omega),if_pos (.inr h4)]
theorem FP(D:DS)(at':Int)(bs:List UInt8)(j:Int):(zq D at' bs).read j=if j=at' then eM bs else D.read j:=FL _ _ _ _
theorem Er{D:DS}(h:D.Ok){at':Int}{bs:List UInt8}(h2:bs.length≤64)(h4:D.ar=false∨0<D.lf):(zq D at' bs).Ok:=by
 refine⟨h.s,h.ws.add _ (dw h2),?_⟩;have:=h.lf;show 0≤(if D.ar=true then D.lf-1 else D.lf)∧(if D.ar=true then D.lf-1 else D.lf)≤9223372036854775807;split
 · rename_i h5
   rcases h4 with h4|h4
   · rw[h4]at h5;cases h5
   · omega
 · exact this
theorem Es{D:DS}(h:Wal.DS.In D){at':Int}{bs:List UInt8}(h1:0≤at'∧at'<2048):Wal.DS.In (zq D at' bs):=⟨h.1,λp hp=>by
 rcases eC.1 hp with hp|hp
 · exact h.2 p hp
 · simp only[im]at hp;subst hp;exact h1⟩
theorem In.put{s:fA}(h:In s){k:Int}{v:jP}(h1:0≤k∧k<2048):In (nJ s k v):=by
 induction s with
 |nil=>intro p hp;simp only[nJ,im]at hp;subst hp;exact h1
 |cons p s ih=>
  obtain⟨a,b⟩:=p;intro q hq;simp only[nJ]at hq;split at hq
  · rcases cf.1 hq with rfl|hq
    · exact h (a,b) (by simp)
    · exact h q (by simp[hq])
  · rcases cf.1 hq with rfl|hq
    · exact h (a,b) (by simp)
    · exact ih (λq hq=>h q (by simp[hq])) q hq
theorem In.lay{s ws:fA}(h:In s)(hw:In ws): ∀k,k≤ws.length→In (Bw s ws k)
 |0,_=>h
 |k+1,hk=>by
  have:=hw (kJ ws k) (by rw[u9 (by omega)];exact dW _);exact(In.lay h hw k (by omega)).put this
theorem In.crash{mask torn:Int}{c:Nat}{s ws:fA}(h:In s)(hw:In ws): ∀k,k≤ws.length→In (mT mask torn c s ws k)
 |0,_=>h
 |k+1,hk=>by
  have h1:=hw (kJ ws k) (by rw[u9 (by omega)];exact dW _);have ih:=In.crash (mask:=mask) (torn:=torn) (c:=c) h hw k (by omega);simp only[mT,mA];split
  · exact ih.put h1
  · split
    · exact ih.put h1
    · exact ih
theorem In.nil:In []:=λ_ h=>absurd h (by simp)
abbrev OK:= @In.nil
structure Calm(D:DS):Prop where
 ok:D.Ok
 inn:Wal.DS.In D
 ar:D.ar=false
 dn:D.dn=false
theorem Calm.crash{D:DS}(h:D.Ok)(hi:Wal.DS.In D)(mask torn n:Int):Calm (D.crash mask torn n):=⟨DS.crash_ok h _ _ _,⟨hi.1.crash hi.2 _ (aK _),OK⟩,rfl,rfl⟩
theorem Fk{D:DS}(h:D.dn=false)(j:Int):D.sync.2.read j=D.read j:=by
 unfold DS.sync;rw[if_neg (by simp[h])];exact AT _ _ _ _
theorem s8{D:DS}(h:D.dn=false):D.sync.1=0∧D.sync.2.ws=[]∧D.sync.2.dn=false∧D.sync.2.ar=D.ar∧D.sync.2.lf=D.lf:=by
 unfold DS.sync;rw[if_neg (by simp[h])];exact⟨rfl,rfl,h,rfl,rfl⟩
theorem Ej{D:DS}(h:Wal.DS.In D):Wal.DS.In D.sync.2:=by
 unfold DS.sync;split
 · exact h
 · exact⟨h.1.lay h.2 _ (aK _),OK⟩
theorem Calm.sync{D:DS}(h:Calm D):Calm D.sync.2:=by
 obtain⟨_,_,h3,h4,_⟩:=s8 h.dn;exact⟨DS.sync_ok h.ok,Ej h.inn,h4.trans h.ar,h3⟩
theorem Calm.put{D:DS}(h:Calm D){at':Int}{bs:List UInt8}(h1:0≤at'∧at'<2048)(h2:bs.length≤64):Calm (zq D at' bs):=⟨Er h.ok h2 (.inl h.ar),Es h.inn h1,h.ar,rfl⟩
theorem Hi:eM []=zs:=rfl
theorem sT: ∀(n:Nat) (at':Int) (D:DS),Calm D→0≤at'→at'+n≤2048→∃D',jw n at' D=(0,D')∧Calm D'∧∀j,D'.read j=if at'≤j∧j<at'+n then zs else D.read j
 |0,at',D,h,_,_=>⟨D,rfl,h,λj=>by rw[if_neg (by omega)]⟩
 |n+1,at',D,h,h0,h1=>by
  by_cases hz:D.read at'=zs
  · obtain⟨D',e,c,r⟩:=sT n (at'+1) D h (by omega) (by omega)
    refine⟨D',by rw[jw,if_pos hz,e],c,λj=>?_⟩;rw[r j]
    by_cases q:j=at'
    · subst q;rw[if_neg (by omega),if_pos (by omega),hz]
    · by_cases q2:at'+1≤j∧j<at'+1+n
      · rw[if_pos q2,if_pos (by omega)]
      · rw[if_neg q2,if_neg (by omega)]
  · have hw:=qz (D:=D) (at':=at') (bs:=[]) (by omega) (by simp) h.dn (.inl h.ar)
    obtain⟨D',e,c,r⟩:=sT n (at'+1) (zq D at' []) (h.put (by omega) (by simp)) (by omega) (by omega);refine⟨D',by rw[jw,if_neg hz,hw,if_pos rfl,e],c,λj=>?_⟩;rw[r j,FP,Hi]
    by_cases q:j=at'
    · subst q;rw[if_neg (by omega),if_pos rfl,if_pos (by omega)]
    · rw[if_neg q]
      by_cases q2:at'+1≤j∧j<at'+1+n
      · rw[if_pos q2,if_pos (by omega)]
      · rw[if_neg q2,if_neg (by omega)]
theorem Fw{D:DS}(h:Calm D):0≤(fQ D.read jf 0 0).2∧(fQ D.read jf 0 0).2≤2048∧((fQ D.read jf 0 0).1.length:Int)≤(fQ D.read jf 0 0).2:=by
 have key: ∀f rs used,Scan D f rs used→∃rs' used',fQ D.read jf 0 0=(rs',used')∧0≤used'∧used'≤2048∧(rs'.length:Int)≤used':=by
  intro f
  induction f with
  |zero=>
   intro rs used hs;cases hst:fI D.read ((rs.length:Int)+1) used with
   |none=>exact⟨rs,used,hs.stop hst,hs.2.1,hs.2.2.1,hs.2.2.2.2⟩
   |some p=>obtain⟨b,all⟩:=p;obtain⟨f',e,_⟩:=Scan.next h.inn h.ok hs hst;omega
  |succ f ih=>
   intro rs used hs;cases hst:fI D.read ((rs.length:Int)+1) used with
   |none=>exact⟨rs,used,hs.stop hst,hs.2.1,hs.2.2.1,hs.2.2.2.2⟩
   |some p=>
    obtain⟨b,all⟩:=p;obtain⟨f',e,hs'⟩:=Scan.next h.inn h.ok hs hst;obtain rfl:f=f':=by omega
    exact ih _ _ hs'
 obtain⟨rs,used,e,h1,h2,h3⟩:=key _ _ _ (Scan.start D);rw[e];exact⟨h1,h2,h3⟩
theorem F0{D:DS}(h:Calm D): ∃D',bL D=⟨0,(fQ D.read jf 0 0).1,(fQ D.read jf 0 0).2,D'⟩∧Calm D'∧D'.ws=[]∧∀j,D'.read j=if(fQ D.read jf 0 0).2≤j∧j<2048 then zs else D.read j:=by
 obtain⟨h1,h2,_⟩:=Fw h;generalize hr:fQ D.read jf 0 0=r at*;obtain⟨rs,used⟩:=r;simp only at h1 h2 ⊢;obtain⟨D',e,c,rd⟩:=sT (2048-used).toNat used D h h1 (by omega);obtain⟨s1,s2,_⟩:=s8 c.dn;refine⟨D'.sync.2,Eu hr e s1,c.sync,s2,λj=>?_⟩;rw[Fk c.dn,rd j]
 by_cases q:used≤j∧j<2048
 · rw[if_pos q,if_pos (by omega)]
 · rw[if_neg q,if_neg (by omega)]
def jL:Nat→List (List UInt8)→List jP
 |_,[]=>[]
 |n,b::ls=>cg ((n+1:Nat):Int) b++jL (n+1) ls
def px(ls:List (List UInt8)):Nat:=(jL 0 ls).length
theorem zK: ∀(a:List (List UInt8)) (n:Nat) (b:List (List UInt8)),jL n (a++b)=jL n a++jL (n+a.length) b
 | [],n,b=>by simp[jL]
 |x::a,n,b=>by
  simp only[l4,jL,zK a (n+1) b,aL,ay];rw[show n+1+a.length=n+(a.length+1)by omega]
theorem yx: ∀(ls:List (List UInt8)) (n m:Nat),(jL n ls).length=(jL m ls).length
 | [],_,_=>rfl
 |b::ls,n,m=>by simp only[jL,aj,eB,yx ls (n+1) (m+1)]
theorem AS: ∀ls:List (List UInt8),ls.length≤px ls
 | []=>aK _
 |b::ls=>by
  have h1:=AS ls;have h2:=pG b.length;have h3:=yx ls 1 0;simp only[px,jL,aj,eB,ay,h3]at*;omega
theorem zh{number:Int}{b:List UInt8}{k:Nat}(h:k< (cg number b).length):(cg number b)[k]=pA number k (bu b.length) (gl b k):=by simp[cg]
theorem zg(number:Int)(b:List UInt8): ∀s∈cg number b,s.length=64:=λs hs=>by
 obtain⟨i,_,rfl⟩:=eS.1 hs;exact Fv (ti b i)
theorem vU{number:Int}{b:List UInt8}{k:Nat}(h:k< (cg number b).length)(h0:0≤number)(h1:number<4294967296)(hb:b.length≤3000):fi (cg number b)[k] number k=some (gl b k,((bu b.length:Nat):Int)):=by
 rw[zh h];rw[eB]at h;exact Be (ti b k) h0 h1 h (by have:=vT hb;omega)
theorem yn{rd:Int→jP}{number at':Int}{b:List UInt8}(h0:0≤number)(h1:number<4294967296)(hb:b.length≤3000): ∀k,k≤bu b.length→(∀j (h:j< (cg number b).length),j<k→rd (at'+j)=(cg number b)[j])→
 kC rd number at' ((bu b.length:Nat):Int) k=some ((List.range k).map (gl b)).flatten
 |0,_,_=>rfl
 |k+1,hk,h=>by
  have ih:=yn h0 h1 hb k (by omega) (λj hj hj2=>h j hj (by omega));have hl:k< (cg number b).length:=by rw[eB];omega
  rw[wj ih (by rw[h k hl (by omega)];exact vU hl h0 h1 hb)];simp[cR]
theorem AQ{rd:Int→jP}{number at':Int}{b:List UInt8}(h0:0≤number)(h1:number<4294967296)(hb:b.length≤3000)(h: ∀j (h:j< (cg number b).length),rd (at'+j)=(cg number b)[j]):fI rd number at'=some (b,((bu b.length:Nat):Int)):=by
 have hl:0< (cg number b).length:=by rw[eB];exact pG _
 have hp:fi (rd at') number 0=some (gl b 0,((bu b.length:Nat):Int)):=by
  have e:=h 0 hl;rw[show at'+((0:Nat):Int)=at' by omega]at e;rw[e];exact vU hl h0 h1 hb
 refine rR hp ?_;rw[Iz,yn h0 h1 hb _ (aK _) (λj hj _=>h j hj),FV b _ (xm _)]
def Shows(rd:Int→jP)(at':Int)(l:List jP):Prop:=∀j (h:j<l.length),rd (at'+j)=l[j]
theorem Shows.left{rd:Int→jP}{at':Int}{a b:List jP}(h:Shows rd at' (a++b)):Shows rd at' a:=λj hj=>by
 rw[h j (by rw[aj];omega),List.getElem_append_left hj]
theorem Shows.right{rd:Int→jP}{at':Int}{a b:List jP}(h:Shows rd at' (a++b)):Shows rd (at'+a.length) b:=λj hj=>by
 have:=h (a.length+j) (by rw[aj];omega);rw[show at'+((a.length+j:Nat):Int)=at'+a.length+j by omega]at this;rw[this,List.getElem_append_right (by omega)];congr 1;omega
theorem A1{rd:Int→jP}: ∀(ls:List (List UInt8)) (n:Nat) (at':Int) (f:Nat),(∀b∈ls,b.length≤3000)→n+ls.length<4294967296→Shows rd at' (jL n ls)→
 fQ rd (ls.length+f) n at'=(ls++(fQ rd f ((n+ls.length:Nat):Int) (at'+(jL n ls).length)).1,(fQ rd f ((n+ls.length:Nat):Int) (at'+(jL n ls).length)).2)
 | [],n,at',f,_,_,_=>by simp[jL]
 |b::ls,n,at',f,hl,hn,h=>by
  simp only[jL]at h ⊢;simp only[ay]at hn ⊢;have hs:=AQ (rd:=rd) (number:=((n+1:Nat):Int)) (at':=at') (by omega) (by omega) (hl b (by simp)) h.left;have ih:=A1 (rd:=rd) ls (n+1) (at'+(cg ((n+1:Nat):Int) b).length) f (λx hx=>hl x (by simp[hx])) (by omega) h.right;rw[eB]at ih;rw[show ls.length+1+f=(ls.length+f)+1 by omega,Em (b:=b) (all:=((bu b.length:Nat):Int)) (by rw[←hs];congr 1)];rw[show((n:Nat):Int)+1=((n+1:Nat):Int)by omega,ih];rw[aj,eB,show n+1+ls.length=n+(ls.length+1)by omega,show at'+((bu b.length+(jL (n+1) ls).length:Nat):Int)=at'+((bu b.length:Nat):Int)+(((jL (n+1) ls).length:Nat):Int)by omega];simp
structure LogD(D:DS)(ls:List (List UInt8)):Prop where
 ok:D.Ok
 inn:Wal.DS.In D
 ws:D.ws=[]
 short: ∀b∈ls,b.length≤3000
 room:px ls≤2048
 shows:Shows D.read 0 (jL 0 ls)
 zero: ∀j,((px ls:Nat):Int)≤j→D.read j=zs
theorem LogD.len{D:DS}{ls:List (List UInt8)}(h:LogD D ls):ls.length≤2048:=by have:=AS ls;have:=h.room;omega
theorem Fm{rd:Int→jP}{number at':Int}(h:(rd at').getD 63 0≠1):fI rd number at'=none:=qk (qO h)
theorem Kw:zs.getD 63 0≠1:=by decide
theorem LogD.scan{D:DS}{ls:List (List UInt8)}(h:LogD D ls):fQ D.read jf 0 0=(ls,((px ls:Nat):Int)):=by
 have hl:=h.len;obtain⟨f,hf⟩: ∃f,jf=ls.length+f:=⟨jf-ls.length,by rw[sy];omega⟩;have:=A1 (rd:=D.read) ls 0 0 f h.short (by omega) h.shows;rw[←hf]at this;rw[show((0:Nat):Int)=0 from rfl]at this;have hz:=h.zero _ (Int.le_refl _);simp only[px]at hz;rw[this,Int.zero_add,x9 (Fm (by rw[hz];exact Kw))];simp[px]
theorem LogD.new:LogD DS.new []:=⟨DS.new_ok,⟨OK,OK⟩,rfl,λ_ h=>absurd h (by simp),by decide,λj h=>absurd h (by simp[jL]),λj _=>rfl⟩
theorem LogD.open{D:DS}{ls:List (List UInt8)}(h:LogD D ls)(ha:D.ar=false)(hd:D.dn=false): ∃D',bL D=⟨0,ls,((px ls:Nat):Int),D'⟩∧LogD D' ls∧D'.ar=false∧D'.dn=false:=by
 obtain⟨D',e,c,hw,hr⟩:=F0 (D:=D) ⟨h.ok,h.inn,ha,hd⟩;rw[h.scan]at e hr
 have hrd: ∀j,D'.read j=D.read j:=λj=>by
  rw[hr j];split
  · rename_i q;rw[h.zero j q.1]
  · rfl
 exact⟨D',e,⟨c.ok,c.inn,hw,h.short,h.room,λj hj=>by rw[hrd];exact h.shows j hj,λj hj=>by rw[hrd];exact h.zero j hj⟩,c.ar,c.dn⟩
def Ly:Int→List jP→fA
 |_,[]=>[]
 |at',s::ss=>(at',s)::Ly (at'+1) ss
structure Half(D:DS)(ls:List (List UInt8))(bs:List UInt8):Prop where
 ok:D.Ok
 inn:Wal.DS.In D
 short: ∀b∈ls,b.length≤3000
 short':bs.length≤3000
 room:px ls+bu bs.length≤2048
 shows:Shows (iy D.s) 0 (jL 0 ls)
 zero: ∀j,((px ls:Nat):Int)≤j→iy D.s j=zs
 ws: ∃m,m≤bu bs.length∧D.ws=Ly ((px ls:Nat):Int) ((cg ((ls.length+1:Nat):Int) bs).take m)
end Wal
end

section
namespace Go.Proofs.YtjblgopghhgflaaGreat
open Go Leg Codec Api
theorem Cw(wb b off cap:Nat)(v:Value)(bs:List UInt8)(l:List Int)(cs:List Value)(T:TypeId)(z:Nat×Nat)(hlen:bs.length+10*l.length≤140737488355328)(hb: ∀j,j<l.length→cs[off+j]?=some (.int .i64 (l.getD j 0))):
 DT 84 #[(.pointer (some ⟨wb,0,none⟩)),(.slice (some ⟨b,off,none⟩) (l.length) (cap))] (λF=>F b=some (.cells cs.toArray T z)) [ah wb [v] 144,dQ v (bs) 5] (pY 144 5 wb (bs++bf l)):=by
 refine BD 45 Tryz.func84 rfl rfl rfl λw0 F hF=>sr λ_ J1=>PS ?_
 refine nx J1 (ab λ_ J2=>sr λ_ J3=>PS ?_);refine tp (sP rfl j9 rfl) ?_;refine PS ?_;refine nx J3 (aq ?_)
 refine bp (α:=(Nat)×(Value)×(List UInt8)) (λ⟨k,u,laid⟩=>k≤l.length∧laid++bf (l.drop k)=bs++bf l) (λ⟨k,u,laid⟩=>[(0,(.pointer (some ⟨wb,0,none⟩))),(4,(.pointer none)),(8,(.slice (some ⟨b,off,none⟩) (l.length) (cap))),(9,(.int .i64 (((l.length:Nat):Int)))),(10,(.int .i64 ((k:Nat))))]) (λ⟨k,u,laid⟩=>[ah wb [u] 144,dQ u (laid) 5]) (λ⟨k,u,laid⟩=>l.length-k) (0,v,bs)
  ⟨by omega,rfl⟩ SB
  (λ_ s=>s) (λ⟨k,u,laid⟩ hinv=>?_)
 obtain⟨hk,hL⟩:=hinv;refine sr λ_ J4=>PS ?_
 refine an ?_ ?_<;>intro h11;refine nx J4 (ab λ_ J5=>CY (qx J5 (ab λ_ J6=>aq (sr λ_ J7=>tp (jv (r:=off+k) rfl j9 aQ rfl rfl (by first|omega|decide) (by first|omega|decide) (by omega)) ?_))));refine tp (fc (v:=(.int .i64 ((l.getD k 0)))) rfl Y3 rfl rfl (Rd.ro hF) (hb k (by omega))) ?_;refine PS ?_;refine nx J7 (sr λ_ J8=>PS ?_);refine tp (el (r:=((((l.getD k 0%18446744073709551616).toNat:Nat)):Int)) rfl Y3 Tryz.underlying202 rfl (yQ _)) ?_;refine PS ?_;refine nx J8 (ab λ_ J9=>aq ?_)
 refine bp (α:=(Nat)×(Value)×(List UInt8)) (λ⟨m,u2,laid2⟩=>laid2++(uB m++bf (l.drop (k+1)))=bs++bf l) (λ⟨m,u2,laid2⟩=>[(0,(.pointer (some ⟨wb,0,none⟩))),(4,(.pointer none)),(7,(.int .u64 ((m:Nat)))),(8,(.slice (some ⟨b,off,none⟩) (l.length) (cap))),(9,(.int .i64 (((l.length:Nat):Int)))),(10,(.int .i64 ((k:Nat))))]) (λ⟨m,u2,laid2⟩=>[ah wb [u2] 144,dQ u2 (laid2) 5]) (λ⟨m,u2,laid2⟩=>m) ((l.getD k 0%18446744073709551616).toNat,u,laid)
  (by rw[←hL,Gt (l:=l) (k:=k) (by omega)];rfl) SB
  (λ_ s=>s) (λ⟨m,u2,laid2⟩ hinv=>?_)
 have hM:=hinv;refine ab λ_ J10=>sr λ_ J11=>P2 ?_
 refine an ?_ ?_<;>intro h17;refine nx J11 (CY (qx J10 (aq (sr λ_ J12=>P3 ?_))));refine FA 0 Ip nr ?_;refine LA 0 gp ?_;refine PS ?_;refine tp (el (r:=(IntKind.u8.wrap ((m:Nat):Int))) rfl Tryz.underlying202 Y5 rfl rfl) ?_;refine tp (Ir (r:=(((UInt8.ofNat (m%128+128)).toNat:Nat):Int)) rfl rfl rfl (LS m)) ?_;refine aU (cells:=#[(.int .u8 ((((UInt8.ofNat (m%128+128)).toNat:Nat):Int)))]) (aa rfl) rfl rfl rfl gp yv rfl rfl rfl (by as_aux_lemma=>kernel_rfl) (λb26=>cH (k:=2) (news:=eb ([(UInt8.ofNat (m%128+128))])) (nn':=(laid2++[(UInt8.ofNat (m%128+128))]:List UInt8).length) (xs':=eb (laid2++[(UInt8.ofNat (m%128+128))])) (aa rfl) rfl rfl rfl gp yv rfl rfl rfl rfl rfl rfl (λ_ _=>ju rfl (RO 0) rfl) (eU [(UInt8.ofNat (m%128+128))]) (by have:=congrArg List.length hM;have:=aT l;have:=pP m;simp only[aj,maxLen]at*;omega) (by have:=congrArg List.length hM;have:=aT l;have:=pP m;simp only[aj]at*;omega) (by simp) (iT _ _).symm (λv27 ov27=>PS ?_));refine FA 0 Ip nr ?_;refine bD (i:=1) (aa rfl) rfl rfl rfl rfl ov27 nr rfl rfl (lb rfl) rfl rfl (nx J12 (ad (PS ?_)));refine tp (lJ (r:=((m / 128:Nat):Int)) rfl rfl rfl (by omega) (ND m)) ?_;refine PS ?_;refine ap (af ?_)
 exact aI ((m / 128,v27,laid2++[(UInt8.ofNat (m%128+128))]):(Nat)×(Value)×(List UInt8)) (by rw[←hM,sC (by omega)];simp) (by show m / 128<m;omega)
  SB
  (λ_ s=>ak [1,1] rfl s)
 refine nx J11 (CN (aW (az (az (bm (ac J9 (ad (P3 ?_))))))));refine FA 0 Ip nr ?_;refine LA 0 gp ?_;refine PS ?_;refine tp (el (r:=(((UInt8.ofNat m).toNat:Nat):Int)) rfl Tryz.underlying202 Y5 rfl (Ju (by omega))) ?_;refine aU (cells:=#[(.int .u8 ((((UInt8.ofNat m).toNat:Nat):Int)))]) (aa rfl) rfl rfl rfl gp yv rfl rfl rfl (by as_aux_lemma=>kernel_rfl) (λb39=>cH (k:=2) (news:=eb ([(UInt8.ofNat m)])) (nn':=(laid2++[(UInt8.ofNat m)]:List UInt8).length) (xs':=eb (laid2++[(UInt8.ofNat m)])) (aa rfl) rfl rfl rfl gp yv rfl rfl rfl rfl rfl rfl (λ_ _=>ju rfl (RO 0) rfl) (eU [(UInt8.ofNat m)]) (by have:=congrArg List.length hM;have:=aT l;have:=pP m;simp only[aj,maxLen]at*;omega) (by have:=congrArg List.length hM;have:=aT l;have:=pP m;simp only[aj]at*;omega) (by simp) (iT _ _).symm (λv40 ov40=>PS ?_));refine FA 0 Ip nr ?_;refine bD (i:=1) (aa rfl) rfl rfl rfl rfl ov40 nr rfl rfl (lb rfl) rfl rfl (ap (af (ac J6 (ad (AD ?_)))));refine PS ?_;refine ap ?_
 exact aI ((k+1,v40,laid2++[(UInt8.ofNat m)]):(Nat)×(Value)×(List UInt8)) ⟨by omega,by rw[←hM,qb (by omega)];simp⟩ (by show _-_<_-_;omega)
  SB
  (λ_ s=>ak [1,1] rfl s)
 refine nx J4 (ab λ_ J13=>CN (aW (az (az (bm (ac J2 (sr λ_ J14=>P2 ?_)))))));refine nx J14 (ai (WK [0,0] (au rfl rfl ?_)));obtain rfl:laid=bs++bf l:=by rw[←hL,dz (by omega)];simp[bf]
 exact⟨u,rfl,rfl⟩
theorem GL(wb:Nat)(v:Value)(bs:List UInt8):
 DT 84 #[(.pointer (some ⟨wb,0,none⟩)),(.slice none 0 0)] T0 [ah wb [v] 144,dQ v (bs) 5] (pY 144 5 wb (bs++bf [])):=by
 refine BD 45 Tryz.func84 rfl rfl rfl λw0 F hF=>sr λ_ J1=>PS ?_
 refine nx J1 (ab λ_ J2=>sr λ_ J3=>PS ?_);refine tp (sP rfl j9 rfl) ?_;refine PS ?_;refine nx J3 (aq ?_)
 refine bp (α:=Unit) (λ_u=>True) (λ_u=>[(0,(.pointer (some ⟨wb,0,none⟩))),(4,(.pointer none)),(8,(.slice none 0 0)),(9,(.int .i64 0)),(10,(.int .i64 0))]) (λ_u=>[ah wb [v] 144,dQ v (bs) 5]) (λ_u=>0) ()
  trivial SB
  (λ_ s=>s) (λ_u hinv=>?_)
 obtain _:=hinv;refine sr λ_ J4=>PS ?_
 refine nx J4 (ab λ_ J5=>CN (aW (az (az (bm (ac J2 (sr λ_ J6=>P2 ?_)))))));refine nx J6 (ai (au rfl rfl ?_));exact⟨v,rfl,by rw[ji,ba]⟩
theorem dL(wb:Nat)(v:Value)(bs:List UInt8)(x:Value)(l:List Int)(hlen:bs.length+10*l.length≤140737488355328):DT 84 #[(.pointer (some ⟨wb,0,none⟩)),x] (Ov x l) [ah wb [v] 144,dQ v bs 5] (pY 144 5 wb (bs++bf l)):=by
 refine Leg.Does.of λF hF=>?_
 rcases id hF with⟨rfl,rfl⟩| ⟨b,off,cap,cs,T,z,rfl,h3,h4⟩
 · exact⟨_,trivial,GL wb v bs⟩
 · exact⟨_,h3,Cw wb b off cap v bs l cs T z hlen h4⟩
theorem ef(wb:Nat)(v:Value)(bs:List UInt8)(hlen:bs.length≤140737488355328):
 DT 89 #[(.pointer (some ⟨wb,0,none⟩))] T0 [ah wb [v] 144,dQ v (bs) 5] (dm (λx H=>∃u,x=u∧H=[ah wb [v] 144,dQ v bs 5,dQ u bs 5])):=by
 refine Leg.Does.body (vs:=[(.pointer (some ⟨wb,0,none⟩))]) (n:=9) Tryz.func89 rfl rfl rfl (λw0 F hF=>?_);refine sr λ_ J1=>?_
 refine pa ?_;refine nx J1 ?_;refine sr λ_ J2=>?_
 refine Cj (aa rfl) rfl rfl rfl gp k0 (λv3=>?_);change TL _ _ _ _ _ _ _ _ _ [dQ v3 ([]) 5,ah wb [v] 144,dQ v (bs) 5];refine mv ?_;refine tp (fX rfl rfl) ?_;refine tp (aY (r:=0) rfl Ip rfl nr rfl rfl) ?_;refine tp (fc (v:=v) rfl gp rfl rfl (dN 1 rfl rfl) rfl) ?_;refine cH (k:=0) (news:=eb (bs)) (nn':=(bs:List UInt8).length) (xs':=eb (bs)) (aa rfl) rfl rfl rfl gp yv rfl rfl rfl rfl rfl rfl (λ_ s=>OF 2 rfl rfl s) (eU _) (by simp only[maxLen,ay,aD];omega) (by simp only[ay,aD];omega) (by simp) (be _) (λv8 ov8=>?_);change TL _ _ _ _ _ _ _ _ _ [dQ v8 (bs) 5,ah wb [v] 144,dQ v (bs) 5];refine pa ?_;refine nx J2 ?_;refine ai ?_;refine aF (di _) (λ_ s=>ak [1,1,0] rfl s) ?_;refine au rfl rfl ?_;exact⟨v8,rfl,rfl⟩
theorem Am(wb:Nat)(v:Value)(bs:List UInt8)(a0 a1 g0 g1 g2 g3 g4:Int)(hlen:bs.length+70≤140737488355328):
 DT 88 #[(.pointer (some ⟨wb,0,none⟩)),(.agg #[(.int .i64 (a0)),(.int .i64 (a1)),(.int .i64 (g0)),(.int .i64 (g1)),(.int .i64 (g2)),(.int .i64 (g3)),(.int .i64 (g4))])] T0 [ah wb [v] 144,dQ v (bs) 5] (pY 144 5 wb (bs++bf [a0,a1,g0,g1,g2,g3,g4])):=by
 refine BD 15 Tryz.func88 rfl rfl rfl λw0 F hF=>sr λ_ J1=>XB λb3=>?_
 refine PS ?_;refine nx J1 (ab λ_ J2=>D1 0 bh ?_);refine PD 0 ?_;refine FD 1 0 eD aQ ?_;refine LX 2 Y3 (.int .i64 (a0)) ?_ (hc:=by exact rfl);refine FD 3 1 eD aQ ?_;refine LX 4 Y3 (.int .i64 (a1)) ?_ (hc:=by exact rfl);refine FD 7 2 eD eV ?_;refine ta 8 rfl (nj rfl jC aQ rfl) ?_;refine AL 5 ?_;refine aU (cells:=#[(.int .i64 (a0)),(.int .i64 (a1))]) (aa rfl) rfl rfl rfl j9 qX rfl rfl rfl (by as_aux_lemma=>kernel_rfl) (λb10=>EN (AL 6 ?_));refine CQ nt (dL wb v (bs) (.slice (some ⟨b10,0,none⟩) (2) (2)) [a0,a1] (by simp only[aj,ay,aD,aA];first|omega| (have:=aT [a0,a1];simp only[ay,aD]at this;omega))) (SM [2,2]) (dA 0 rfl rfl rfl rfl) λvR HR hR=>?_
 obtain⟨u1,rfl,rfl⟩:=hR;refine EN (AL 9 ?_);refine CQ nt (dL wb u1 (bs++bf [a0,a1]) (.slice (some ⟨b3,2,none⟩) (5) (5)) [g0,g1,g2,g3,g4] (by simp only[aj,ay,aD,aA];first|omega| (have:=aT [a0,a1];simp only[ay,aD]at this;omega))) ID (dA 1 rfl rfl rfl rfl) λvR HR hR=>?_
 obtain⟨u2,rfl,rfl⟩:=hR;refine EN (PD 10 ?_);refine DN (ac J2 (ai (WK [0,0] (au rfl rfl ?_))));exact⟨_,rfl,by rw[aL,←pO];rfl⟩
theorem xb(wb:Nat)(v:Value)(bs:List UInt8)(a0 a1 a2:Int)(hlen:bs.length+30≤140737488355328):
 DT 87 #[(.pointer (some ⟨wb,0,none⟩)),(.agg #[(.int .i64 (a0)),(.int .i64 (a1)),(.int .i64 (a2))])] T0 [ah wb [v] 144,dQ v (bs) 5] (pY 144 5 wb (bs++bf [a0,a1,a2])):=by
 refine BD 14 Tryz.func87 rfl rfl rfl λw0 F hF=>sr λ_ J1=>XB λb3=>?_
 refine PS ?_;refine nx J1 (sr λ_ J2=>PS ?_);refine FA 0 mX aQ ?_;refine LA 0 Y3 ?_;refine FA 1 mX aQ ?_;refine LA 0 Y3 ?_;refine FA 2 mX aQ ?_;refine LA 0 Y3 ?_;refine aU (cells:=#[(.int .i64 (a0)),(.int .i64 (a1)),(.int .i64 (a2))]) (aa rfl) rfl rfl rfl j9 qX rfl rfl rfl (by as_aux_lemma=>kernel_rfl) (λb12=>CQ nt (dL wb v (bs) (.slice (some ⟨b12,0,none⟩) (3) (3)) [a0,a1,a2] (by simp only[aj,ay,aD,aA];first|omega| (have:=aT [a0,a1];simp only[ay,aD]at this;omega))) (SM [2,2]) (dA 0 rfl rfl rfl rfl) λvR HR hR=>?_);obtain⟨u1,rfl,rfl⟩:=hR;refine PS ?_;exact nx J2 (ai (WK [0,0] (au rfl rfl ⟨_,rfl,rfl⟩)))
theorem xc(wb:Nat)(v:Value)(bs:List UInt8)(a0 a1:Int)(hlen:bs.length+20≤140737488355328):
 DT 86 #[(.pointer (some ⟨wb,0,none⟩)),(.agg #[(.int .i64 (a0)),(.int .i64 (a1))])] T0 [ah wb [v] 144,dQ v (bs) 5] (pY 144 5 wb (bs++bf [a0,a1])):=by
 refine BD 12 Tryz.func86 rfl rfl rfl λw0 F hF=>sr λ_ J1=>XB λb3=>?_
 refine PS ?_;refine nx J1 (sr λ_ J2=>PS ?_);refine FA 0 jY aQ ?_;refine LA 0 Y3 ?_;refine FA 1 jY aQ ?_;refine LA 0 Y3 ?_;refine aU (cells:=#[(.int .i64 (a0)),(.int .i64 (a1))]) (aa rfl) rfl rfl rfl j9 qX rfl rfl rfl (by as_aux_lemma=>kernel_rfl) (λb10=>CQ nt (dL wb v (bs) (.slice (some ⟨b10,0,none⟩) (2) (2)) [a0,a1] (by simp only[aj,ay,aD,aA];first|omega| (have:=aT [a0,a1];simp only[ay,aD]at this;omega))) (SM [2,2]) (dA 0 rfl rfl rfl rfl) λvR HR hR=>?_);obtain⟨u1,rfl,rfl⟩:=hR;refine PS ?_;exact nx J2 (ai (WK [0,0] (au rfl rfl ⟨_,rfl,rfl⟩)))
theorem At(wb:Nat)(v:Value)(bs:List UInt8)(a0 a1 g0 g1 g2 g3 g4:Int)(hlen:bs.length+70≤140737488355328):
 DT 127 #[(.pointer (some ⟨wb,0,none⟩)),(.agg #[(.int .i64 (a0)),(.int .i64 (a1)),(.int .i64 (g0)),(.int .i64 (g1)),(.int .i64 (g2)),(.int .i64 (g3)),(.int .i64 (g4))])] T0 [ah wb [v] 144,dQ v (bs) 5] (dm (λx H=>∃v',x= .tuple #[]∧H=[ah wb [v'] 144,dQ v' (bs++bf [a0,a1,g0,g1,g2,g3,g4]) 5])):=by
 refine BD 14 Tryz.func127 rfl rfl rfl λw0 F hF=>sr λ_ J1=>XB λb3=>?_
 refine nx J1 (D1 0 bh ?_);refine PD 0 ?_;refine FD 1 0 mC aQ ?_;refine LX 2 Y3 (.int .i64 (a0)) ?_ (hc:=by exact rfl);refine FD 3 1 mC aQ ?_;refine LX 4 Y3 (.int .i64 (a1)) ?_ (hc:=by exact rfl);refine FD 7 2 mC eV ?_;refine ta 8 rfl (nj rfl jC aQ rfl) ?_;refine AL 5 ?_;refine aU (cells:=#[(.int .i64 (a0)),(.int .i64 (a1))]) (aa rfl) rfl rfl rfl j9 qX rfl rfl rfl (by as_aux_lemma=>kernel_rfl) (λb9=>EN (AL 6 ?_));refine CQ nt (dL wb v (bs) (.slice (some ⟨b9,0,none⟩) (2) (2)) [a0,a1] (by simp only[aj,ay,aD,aA];first|omega| (have:=aT [a0,a1];simp only[ay,aD]at this;omega))) (SM [2,2]) (dA 0 rfl rfl rfl rfl) λvR HR hR=>?_
 obtain⟨u1,rfl,rfl⟩:=hR;refine EN (AL 9 ?_);refine CQ nt (dL wb u1 (bs++bf [a0,a1]) (.slice (some ⟨b3,2,none⟩) (5) (5)) [g0,g1,g2,g3,g4] (by simp only[aj,ay,aD,aA];first|omega| (have:=aT [a0,a1];simp only[ay,aD]at this;omega))) ID (dA 1 rfl rfl rfl rfl) λvR HR hR=>?_
 obtain⟨u2,rfl,rfl⟩:=hR;refine EN (DN (WK [0,0] (bA rfl ?_)));exact⟨_,rfl,by rw[aL,←pO];rfl⟩
theorem u0(wb:Nat)(v:Value)(bs:List UInt8)(c:CellT)(hlen:bs.length+70≤140737488355328):DT 127 #[(.pointer (some ⟨wb,0,none⟩)),c.val] T0 [ah wb [v] 144,dQ v bs 5] (dm (λx H=>∃v',x= .tuple #[]∧H=[ah wb [v'] 144,dQ v' (bs++bf c.flat) 5])):=by
 obtain⟨i,o,g⟩:=c;exact IM (p:=λg=>Leg.Does Tryz.prog 127 #[(.pointer (some ⟨wb,0,none⟩)),CellT.val ⟨i,o,g⟩] (λ_=>True) [ah wb [v] 144,dQ v bs 5] (dm (λx H=>∃v',x= .tuple #[]∧H=[ah wb [v'] 144,dQ v' (bs++bf (CellT.flat ⟨i,o,g⟩)) 5]))) (λa b c d e=>At wb v bs i o a b c d e hlen) g
theorem qy(wb:Nat)(v:Value)(bs:List UInt8)(x:ViewT)(hlen:bs.length+70≤140737488355328):DT 88 #[(.pointer (some ⟨wb,0,none⟩)),x.val] T0 [ah wb [v] 144,dQ v bs 5] (pY 144 5 wb (bs++bf x.flat)):=by
 obtain⟨i,o,g⟩:=x;exact IM (p:=λg=>Leg.Does Tryz.prog 88 #[(.pointer (some ⟨wb,0,none⟩)),ViewT.val ⟨i,o,g⟩] (λ_=>True) [ah wb [v] 144,dQ v bs 5] (pY 144 5 wb (bs++bf (ViewT.flat ⟨i,o,g⟩)))) (λa b c d e=>Am wb v bs i o a b c d e hlen) g
theorem oh(wb:Nat)(v:Value)(bs:List UInt8)(x:ChangeT)(hlen:bs.length+30≤140737488355328):DT 87 #[(.pointer (some ⟨wb,0,none⟩)),x.val] T0 [ah wb [v] 144,dQ v bs 5] (pY 144 5 wb (bs++bf x.flat)):=xb wb v bs x.kind x.who x.heir (by omega)
theorem jk(wb:Nat)(v:Value)(bs:List UInt8)(x:BallotT)(hlen:bs.length+30≤140737488355328):DT 86 #[(.pointer (some ⟨wb,0,none⟩)),x.val] T0 [ah wb [v] 144,dQ v bs 5] (pY 144 5 wb (bs++bf x.flat)):=xc wb v bs x.round x.who (by omega)
theorem sS(wb:Nat)(v:Value)(bs:List UInt8)(x:RowT)(hlen:bs.length+2000≤140737488355328):
 DT 85 #[(.pointer (some ⟨wb,0,none⟩)),(.agg (ints x.flat).toArray)] T0 [ah wb [v] 144,dQ v (bs) 5] (pY 144 5 wb (bs++gD x)):=by
 refine BD 50 Tryz.func85 rfl rfl rfl λw0 F hF=>sr λ_ J1=>XY (ints x.flat) λb3=>?_
 refine PS ?_;refine nx J1 (sr λ_ J2=>PS ?_);refine FA 0 dD aQ ?_;refine LT 0 Y3 (.int .i64 (x.version)) ?_ (hc:=by exact RowT.get_version _);refine aU (cells:=#[(.int .i64 (x.version))]) (aa rfl) rfl rfl rfl j9 qX rfl rfl rfl (by as_aux_lemma=>kernel_rfl) (λb14=>CQ nt (dL wb v (bs) (.slice (some ⟨b14,0,none⟩) (1) (1)) [x.version] (by have:=congrArg List.length (Eq.refl bs);have:=ia x;simp only[aj,ay,aD]at*;omega)) (SM [2,2]) (dA 0 rfl rfl rfl rfl) λvR HR hR=>?_);obtain⟨u1,rfl,rfl⟩:=hR;refine nx J2 (ab λ_ J3=>sr λ_ J4=>FA 1 dD lj ?_);refine tp (aN (vs:=ints (bF x.cells.toList)) rfl Ak rfl lj rfl (RO 3) (by rw[ints_length,cQ];simp) (RowT.get_cells _)) ?_;refine PS ?_;refine nx J4 (aq ?_)
 refine bp (α:=(Nat)×(Value)×(List UInt8)) (λ⟨k,u,laid⟩=>k≤4∧laid++(bf (bF (x.cells.toList.drop k))++fb x 5 0)=bs++gD x) (λ⟨k,u,laid⟩=>[(0,(.pointer (some ⟨wb,0,none⟩))),(3,(.pointer (some ⟨b3,0,none⟩))),(4,(.pointer none)),(17,(.agg (ints (bF x.cells.toList)).toArray)),(18,(.int .i64 ((k:Nat))))]) (λ⟨k,u,laid⟩=>[ah b3 (ints x.flat) 60,ah wb [u] 144,dQ u (laid) 5]) (λ⟨k,u,laid⟩=>4-k) (0,u1,bs++bf [x.version])
  ⟨by omega,by simp[gD,bf]⟩ SB
  (λ_ s=>ak [3,0,0] rfl s) (λ⟨k,u,laid⟩ hinv=>?_)
 obtain⟨hk,hL⟩:=hinv;have hE:=hL;rw[show bf (bF (x.cells.toList.drop k))=bf (bF (x.cells.toList.drop k))from rfl]at hE;refine sr λ_ J5=>PS ?_
 refine an ?_ ?_<;>intro h19;refine nx J5 (ab λ_ J6=>CY (qx J6 (ab λ_ J7=>aq (sr λ_ J8=>tp (OC (cs:=ints (bF (x.cells.toList))) (r:=k*7) rfl Ak mC rfl fw rfl rfl (by omega) (by omega) (by omega) (yw (by simp;omega))) ?_))));refine XA IB λb6=>?_
 refine bJ (vs:=ints ((x.cells.toList)[k]'(by simp;omega)).flat) (cs':=ints ((x.cells.toList)[k]'(by simp;omega)).flat) (i:=0) (aa rfl) rfl rfl rfl rfl rfl (by rw[bo];exact fw) (bw _) rfl rfl (by rw[bo];exact aK _) (fD (by rw[bo];rfl)) rfl (nx J8 (ad (PS ?_)));refine tp (aN (vs:=ints ((x.cells.toList)[k]'(by simp;omega)).flat) rfl mC rfl fw rfl (RO 0) (bo _) (by rw[aV,aB (by rw[bo];decide)])) ?_;refine CR Kh (u0 wb u (laid) ((x.cells.toList)[k]'(by simp;omega)) (by have:=congrArg List.length hE;have:=ia x;have:=aT ((x.cells.toList)[k]'(by simp;omega)).flat;rw[bv]at this;simp only[aj]at*;omega)) (SM [2,2]) λvR HR hR=>?_
 obtain⟨u2,rfl,rfl⟩:=hR;refine ap (af (ac J7 (ad (AD ?_))));refine PS ?_;refine ap ?_
 exact aI ((k+1,u2,laid++bf ((x.cells.toList)[k]'(by simp;omega)).flat):(Nat)×(Value)×(List UInt8)) ⟨by omega,by rw[←hL,kW (l:=x.cells.toList) (k:=k) (by simp;omega)];simp⟩ (by show _-_<_-_;omega)
  SB
  (λ_ s=>ak [3,0,0] rfl s)
 refine nx J5 (ab λ_ J9=>CN (aW (az (az (bm (ac J3 (ab λ_ J10=>sr λ_ J11=>FA 29 dD eV ?_)))))));refine tp (aN (vs:=ints x.heir.toList) rfl jC rfl eV rfl (RO 0) (by rw[ints_length];simp) (RowT.get_heirs _)) ?_;refine PS ?_;refine nx J11 (aq ?_)
 refine bp (α:=(Nat)×(Value)×(List UInt8)) (λ⟨i,u,laid⟩=>i≤5∧laid++fb x (5-i) i=bs++gD x) (λ⟨i,u,laid⟩=>[(0,(.pointer (some ⟨wb,0,none⟩))),(3,(.pointer (some ⟨b3,0,none⟩))),(4,(.pointer none)),(26,(.agg (ints x.heir.toList).toArray)),(27,(.int .i64 ((i:Nat))))]) (λ⟨i,u,laid⟩=>[ah b3 (ints x.flat) 60,ah wb [u] 144,dQ u (laid) 5]) (λ⟨i,u,laid⟩=>5-i) (0,u,laid)
  ⟨by omega,by rw[←hL,dz (by simp;omega)];simp[bF,bf]⟩ SB
  (λ_ s=>ak [0,0,0] rfl s) (λ⟨i,u,laid⟩ hinv=>?_)
 obtain⟨hi,hL⟩:=hinv;have hE:=hL;refine sr λ_ J12=>PS ?_
 refine an ?_ ?_<;>intro h28;refine nx J12 (ab λ_ J13=>CY (qx J13 (ab λ_ J14=>aq (sr λ_ J15=>PS ?_))));refine tp (jQ (cs:=ints x.heir.toList) (v:= .int .i64 (x.heir[i]'(by omega))) (r:=i) rfl jC Y3 rfl aQ rfl rfl (by omega) (by omega) (by omega) (by rw[ints_get _ _ (by simp;omega)];simp[List.getD_eq_getElem?_getD,show i<5 by omega])) ?_;refine P2 ?_;refine nx J15 (sr λ_ J16=>P2 ?_);refine aU (cells:=#[(.int .i64 (x.heir[i]'(by omega)))]) (aa rfl) rfl rfl rfl j9 qX rfl rfl rfl (by as_aux_lemma=>kernel_rfl) (λb33=>CQ nt (dL wb u (laid) (.slice (some ⟨b33,0,none⟩) (1) (1)) [x.heir[i]'(by omega)] (by have:=congrArg List.length hE;have:=ia x;simp only[aj,ay,aD]at*;omega)) (SM [2,2]) (dA 0 rfl rfl rfl rfl) λvR HR hR=>?_);obtain⟨u2,rfl,rfl⟩:=hR;refine nx J16 (sr λ_ J17=>P2 ?_);refine an ?_ ?_<;>intro h36;refine nx J17 (CY (sr λ_ J18=>PS ?_));refine FA 34 dD Az ?_;refine IX (34+i*28) Kr lj ?_;refine tp (aN (vs:=ints (bF (x.left[i]'(by omega)).toList)) rfl Ak rfl lj rfl (RO 3) (by rw[ints_length,cQ];simp) (RowT.get_left _ i (by omega))) ?_;refine PS ?_;refine nx J18 (aq ?_)
 refine bp (α:=(Nat)×(Value)×(List UInt8)) (λ⟨k,u3,laid3⟩=>k≤4∧laid3++(bf (bF ((x.left[i]'(by omega)).toList.drop k))++fb x (5- (i+1)) (i+1))=bs++gD x) (λ⟨k,u3,laid3⟩=>[(0,(.pointer (some ⟨wb,0,none⟩))),(3,(.pointer (some ⟨b3,0,none⟩))),(4,(.pointer none)),(26,(.agg (ints x.heir.toList).toArray)),(27,(.int .i64 ((i:Nat)))),(40,(.agg (ints (bF (x.left[i]'(by omega)).toList)).toArray)),(41,(.int .i64 ((k:Nat))))]) (λ⟨k,u3,laid3⟩=>[ah b3 (ints x.flat) 60,ah wb [u3] 144,dQ u3 (laid3) 5]) (λ⟨k,u3,laid3⟩=>4-k) (0,u2,laid++bf [x.heir[i]'(by omega)])
  ⟨by omega,by rw[←hL,qp (i:=i) (by omega),if_pos h36];simp[bf]⟩ SB
  (λ_ s=>ak [3,0,0] rfl s) (λ⟨k,u3,laid3⟩ hinv=>?_)
 obtain⟨hk,hM⟩:=hinv;have hE:=hM;refine sr λ_ J19=>PS ?_
 refine an ?_ ?_<;>intro h42;refine nx J19 (ab λ_ J20=>CY (qx J20 (ab λ_ J21=>aq (sr λ_ J22=>tp (OC (cs:=ints (bF ((x.left[i]'(by omega)).toList))) (r:=k*7) rfl Ak mC rfl fw rfl rfl (by omega) (by omega) (by omega) (yw (by simp;omega))) ?_))));refine XA IB λb10=>?_
 refine bJ (vs:=ints (((x.left[i]'(by omega)).toList)[k]'(by simp;omega)).flat) (cs':=ints (((x.left[i]'(by omega)).toList)[k]'(by simp;omega)).flat) (i:=0) (aa rfl) rfl rfl rfl rfl rfl (by rw[bo];exact fw) (bw _) rfl rfl (by rw[bo];exact aK _) (fD (by rw[bo];rfl)) rfl (nx J22 (ad (PS ?_)));refine tp (aN (vs:=ints (((x.left[i]'(by omega)).toList)[k]'(by simp;omega)).flat) rfl mC rfl fw rfl (RO 0) (bo _) (by rw[aV,aB (by rw[bo];decide)])) ?_;refine CR Kh (u0 wb u3 (laid3) (((x.left[i]'(by omega)).toList)[k]'(by simp;omega)) (by have:=congrArg List.length hE;have:=ia x;have:=aT (((x.left[i]'(by omega)).toList)[k]'(by simp;omega)).flat;rw[bv]at this;simp only[aj]at*;omega)) (SM [2,2]) λvR HR hR=>?_
 obtain⟨u3,rfl,rfl⟩:=hR;refine ap (af (ac J21 (ad (AD ?_))));refine PS ?_;refine ap ?_
 exact aI ((k+1,u3,laid3++bf (((x.left[i]'(by omega)).toList)[k]'(by simp;omega)).flat):(Nat)×(Value)×(List UInt8)) ⟨by omega,by rw[←hM,kW (l:=(x.left[i]'(by omega)).toList) (k:=k) (by simp;omega)];simp⟩ (by show _-_<_-_;omega)
  SB
  (λ_ s=>ak [3,0,0] rfl s)
 refine nx J19 (ab λ_ J23=>CN (aW (az (az (bm (af (ac J14 (ad (AD ?_)))))))));refine PS ?_;refine ap ?_
 exact aI ((i+1,u3,laid3):(Nat)×(Value)×(List UInt8)) ⟨by omega,by rw[←hM,dz (by simp;omega)];simp[bF,bf]⟩ (by show _-_<_-_;omega)
  SB
  (λ_ s=>ak [0,0,0] rfl s)
 refine nx J17 (CN (aR (af (ac J14 (ad (AD ?_))))));refine PS ?_;refine ap ?_
 exact aI ((i+1,u2,laid++bf [x.heir[i]'(by omega)]):(Nat)×(Value)×(List UInt8)) ⟨by omega,by rw[←hL,qp (i:=i) (by omega),if_neg h36];simp[bf]⟩ (by show _-_<_-_;omega)
  SB
  (λ_ s=>ak [3,0,0] rfl s)
 refine nx J12 (ab λ_ J24=>CN (aW (az (az (bm (ac J10 (sr λ_ J25=>P2 ?_)))))));refine nx J25 (ai (WK [1,1] (au rfl rfl ?_)));obtain rfl:laid=bs++gD x:=by rw[←hL,show 5-i=0 by omega];simp[fb]
 exact⟨u,rfl,rfl⟩
theorem BN(m:MsgT):
 DT 205 #[(.agg (ints m.flat).toArray)] T0 [] (dm (λr' H=>∃u,r'=u∧H=[dQ u (dX m) 5])):=by
 refine BD 100 Tryz.func205 rfl rfl rfl λw0 F hF=>sr λ_ J1=>XY (ints m.flat) λb1=>?_
 refine PS ?_;refine nx J1 (sr λ_ J2=>XA Lw λb4=>?_);refine TL.ownNil 5 (λon=>?_);clear on;refine PS ?_;refine nx J2 (ab λ_ J3=>sr λ_ J4=>FA 0 bb aQ ?_);refine LU 2 Y3 (eR m rfl) ?_;refine nx J4 (aq (ab λ_ J5=>e7 (α:=Unit) (λ_u=>True) (λ_u=>[(1,(.pointer (some ⟨b1,0,none⟩))),(2,(.slice none 0 0)),(3,(.pointer (some ⟨b4,0,none⟩))),(6,(.int .i64 (m.kind))),(7,(.bool ((fa m.kind))))]) (λ_u=>[dQ (.slice none 0 0) ([]) 5,ah b4 [(.slice none 0 0)] 144,ah b1 (ints m.flat) 178]) (λ_u hinv=>?_) (λtl5=>?_)));have _:=hinv;refine ac J5 (TC.cond rfl (λh7=>?_) (λh7=>?_));refine D1 2 bh ?_;refine PD 0 ?_;refine FD 1 0 bb aQ ?_;refine LR 2 Y3 (eR m rfl) ?_;refine FD 3 1 bb aQ ?_;refine LR 4 Y3 (ce m rfl) ?_;refine FD 7 2 bb aZ ?_;refine ta 8 rfl (aN (vs:=ints m.row.flat) rfl dD rfl aZ rfl (λ_ h=>h.2.1) (ag m.row) (l3 m 0 rfl (by decide) (whole (ag m.row)))) ?_;refine AL 5 ?_;refine aU (cells:=#[(.int .i64 (m.kind)),(.int .i64 (m.whose))]) (aa rfl) rfl rfl rfl j9 qX rfl rfl rfl (by as_aux_lemma=>kernel_rfl) (λb16=>EN (AL 6 ?_));refine CQ nt (dL b4 (.slice none 0 0) ([]) (.slice (some ⟨b16,0,none⟩) (2) (2)) [m.kind,m.whose] (by simp)) (SM [2,1]) (dA 0 rfl rfl rfl rfl) λvR HR hR=>?_
 obtain⟨u1,rfl,rfl⟩:=hR;refine EN (AL 9 ?_);refine CR KM (sS b4 u1 (bf [m.kind,m.whose]) m.row (by(have:=aT [m.kind,m.whose]);simp only[BallotT.flat,ViewT.flat,ChangeT.flat,ay,aD,aA,aj]at*;omega)) ID λvR HR hR=>?_
 obtain⟨u2,rfl,rfl⟩:=hR;refine EN (DN (af (ac J3 (sr λ_ J6=>PS ?_))));refine CR qQ (ef b4 u2 (bf [m.kind,m.whose]++gD m.row) (by(have:=aT [m.kind,m.whose]);(have:=ia m.row);simp only[BallotT.flat,ViewT.flat,ChangeT.flat,ay,aD,aA,aj]at*;omega)) ID λvR HR hR=>?_
 obtain⟨_,rfl,rfl⟩:=hR;revert vR;intro u3;refine PS ?_;refine nx J6 (ai (WK [2] (au rfl rfl ?_)));exact⟨_,rfl,congrArg (λb=>[dQ u3 b 5]) (show(bf [m.kind,m.whose]++gD m.row)=dX m by simp[dX,bf, *])⟩;refine sr λ_ J7=>PS ?_
 refine an ?_ ?_<;>intro h22;refine PS ?_;refine nx J7 (CY (ad (PS ?_)));refine FA 0 bb aQ ?_;refine LU 2 Y3 (eR m rfl) ?_;refine FA 176 bb aQ ?_;refine LU 2 Y3 (MsgT.at_version m rfl) ?_;refine aU (cells:=#[(.int .i64 (m.kind)),(.int .i64 (m.version))]) (aa rfl) rfl rfl rfl j9 qX rfl rfl rfl (by as_aux_lemma=>kernel_rfl) (λb28=>CQ nt (dL b4 (.slice none 0 0) ([]) (.slice (some ⟨b28,0,none⟩) (2) (2)) [m.kind,m.version] (by simp)) (SM [2,1]) (dA 0 rfl rfl rfl rfl) λvR HR hR=>?_);obtain⟨u1,rfl,rfl⟩:=hR;refine ap (af (ac J3 (sr λ_ J8=>PS ?_)));refine CR qQ (ef b4 u1 (bf [m.kind,m.version]) (by(have:=aT [m.kind,m.version]);simp only[BallotT.flat,ViewT.flat,ChangeT.flat,ay,aD,aA,aj]at*;omega)) ID λvR HR hR=>?_
 obtain⟨_,rfl,rfl⟩:=hR;revert vR;intro u2;refine PS ?_;refine nx J8 (ai (WK [2] (au rfl rfl ?_)));exact⟨_,rfl,congrArg (λb=>[dQ u2 b 5]) (show(bf [m.kind,m.version])=dX m by simp[dX,fa,fj,bf, *])⟩;refine PS ?_;refine nx J7 (CN (ab λ_ J9=>e7 (α:=Unit) (λ_u=>True) (λ_u=>[(1,(.pointer (some ⟨b1,0,none⟩))),(2,(.slice none 0 0)),(3,(.pointer (some ⟨b4,0,none⟩))),(6,(.int .i64 (m.kind))),(30,(.bool ((fj m.kind))))]) (λ_u=>[dQ (.slice none 0 0) ([]) 5,ah b4 [(.slice none 0 0)] 144,ah b1 (ints m.flat) 178]) (λ_u hinv=>?_) (λtl9=>?_)));have _:=hinv;refine ac J9 (TC.cond rfl (λh30=>?_) (λh30=>?_));refine D1 2 bh ?_;refine PD 0 ?_;refine FD 1 0 bb aQ ?_;refine LR 2 Y3 (eR m rfl) ?_;refine FD 3 177 bb aQ ?_;refine LR 4 Y3 (eI m rfl) ?_;refine FD 7 178 bb cq ?_;refine ta 8 rfl (aN (vs:=ints m.ballot.flat) rfl jY rfl cq rfl (λ_ h=>h.2.1) (ao m.ballot) (iR m 0 rfl (by decide) (whole (ao m.ballot)))) ?_;refine AL 5 ?_;refine aU (cells:=#[(.int .i64 (m.kind)),(.int .i64 (m.epoch))]) (aa rfl) rfl rfl rfl j9 qX rfl rfl rfl (by as_aux_lemma=>kernel_rfl) (λb38=>EN (AL 6 ?_));refine CQ nt (dL b4 (.slice none 0 0) ([]) (.slice (some ⟨b38,0,none⟩) (2) (2)) [m.kind,m.epoch] (by simp)) (SM [2,1]) (dA 0 rfl rfl rfl rfl) λvR HR hR=>?_
 obtain⟨u1,rfl,rfl⟩:=hR;refine EN (AL 9 ?_);refine CR F6 (jk b4 u1 (bf [m.kind,m.epoch]) m.ballot (by(have:=aT [m.kind,m.epoch]);simp only[BallotT.flat,ViewT.flat,ChangeT.flat,ay,aD,aA,aj]at*;omega)) ID λvR HR hR=>?_
 obtain⟨u2,rfl,rfl⟩:=hR;refine EN (DN (af (ac J3 (sr λ_ J10=>PS ?_))));refine CR qQ (ef b4 u2 (bf [m.kind,m.epoch]++bf m.ballot.flat) (by(have:=aT [m.kind,m.epoch]);(have:=aT (m.ballot.flat));simp only[BallotT.flat,ViewT.flat,ChangeT.flat,ay,aD,aA,aj]at*;omega)) ID λvR HR hR=>?_
 obtain⟨_,rfl,rfl⟩:=hR;revert vR;intro u3;refine PS ?_;refine nx J10 (ai (WK [2] (au rfl rfl ?_)));exact⟨_,rfl,congrArg (λb=>[dQ u3 b 5]) (show(bf [m.kind,m.epoch]++bf m.ballot.flat)=dX m by simp[dX,bf, *])⟩;refine sr λ_ J11=>PS ?_
 refine an ?_ ?_<;>intro h44;refine PS ?_;refine nx J11 (CY (D1 2 bh ?_));refine PD 0 ?_;refine FD 1 0 bb aQ ?_;refine LR 2 Y3 (eR m rfl) ?_;refine FD 3 177 bb aQ ?_;refine LR 4 Y3 (eI m rfl) ?_;refine FD 7 178 bb cq ?_;refine ta 8 rfl (aN (vs:=ints m.ballot.flat) rfl jY rfl cq rfl (λ_ h=>h.2.1) (ao m.ballot) (iR m 0 rfl (by decide) (whole (ao m.ballot)))) ?_;refine FD 10 180 bb cq ?_;refine ta 11 rfl (aN (vs:=ints m.had.flat) rfl jY rfl cq rfl (λ_ h=>h.2.1) (ao m.had) (OJ m 0 rfl (by decide) (whole (ao m.had)))) ?_;refine FD 13 182 bb fB ?_;refine ta 14 rfl (aN (vs:=ints m.change.flat) rfl mX rfl fB rfl (λ_ h=>h.2.1) (aJ m.change) (m5 m 0 rfl (by decide) (whole (aJ m.change)))) ?_;refine AL 5 ?_;refine aU (cells:=#[(.int .i64 (m.kind)),(.int .i64 (m.epoch))]) (aa rfl) rfl rfl rfl j9 qX rfl rfl rfl (by as_aux_lemma=>kernel_rfl) (λb50=>EN (AL 6 ?_));refine CQ nt (dL b4 (.slice none 0 0) ([]) (.slice (some ⟨b50,0,none⟩) (2) (2)) [m.kind,m.epoch] (by simp)) (SM [2,1]) (dA 0 rfl rfl rfl rfl) λvR HR hR=>?_
 obtain⟨u1,rfl,rfl⟩:=hR;refine EN (AL 9 ?_);refine CR F6 (jk b4 u1 (bf [m.kind,m.epoch]) m.ballot (by(have:=aT [m.kind,m.epoch]);simp only[BallotT.flat,ViewT.flat,ChangeT.flat,ay,aD,aA,aj]at*;omega)) ID λvR HR hR=>?_
 obtain⟨u2,rfl,rfl⟩:=hR;refine EN (AL 12 ?_);refine CR F6 (jk b4 u2 (bf [m.kind,m.epoch]++bf m.ballot.flat) m.had (by(have:=aT [m.kind,m.epoch]);(have:=aT (m.ballot.flat));simp only[BallotT.flat,ViewT.flat,ChangeT.flat,ay,aD,aA,aj]at*;omega)) ID λvR HR hR=>?_
 obtain⟨u3,rfl,rfl⟩:=hR;refine EN (AL 15 ?_);refine CR KL (oh b4 u3 (bf [m.kind,m.epoch]++bf m.ballot.flat++bf m.had.flat) m.change (by(have:=aT [m.kind,m.epoch]);(have:=aT (m.ballot.flat));(have:=aT (m.had.flat));simp only[BallotT.flat,ViewT.flat,ChangeT.flat,ay,aD,aA,aj]at*;omega)) ID λvR HR hR=>?_
 obtain⟨u4,rfl,rfl⟩:=hR;refine EN (DN (af (ac J3 (sr λ_ J12=>PS ?_))));refine CR qQ (ef b4 u4 (bf [m.kind,m.epoch]++bf m.ballot.flat++bf m.had.flat++bf m.change.flat) (by(have:=aT [m.kind,m.epoch]);(have:=aT (m.ballot.flat));(have:=aT (m.had.flat));(have:=aT (m.change.flat));simp only[BallotT.flat,ViewT.flat,ChangeT.flat,ay,aD,aA,aj]at*;omega)) ID λvR HR hR=>?_
 obtain⟨_,rfl,rfl⟩:=hR;revert vR;intro u5;refine PS ?_;refine nx J12 (ai (WK [2] (au rfl rfl ?_)));exact⟨_,rfl,congrArg (λb=>[dQ u5 b 5]) (show(bf [m.kind,m.epoch]++bf m.ballot.flat++bf m.had.flat++bf m.change.flat)=dX m by simp[dX,fa,fj,bf, *])⟩;refine PS ?_;refine nx J11 (CN (sr λ_ J13=>PS ?_));refine an ?_ ?_<;>intro h62;refine PS ?_;refine nx J13 (CY (D1 2 bh ?_));refine PD 0 ?_;refine FD 1 0 bb aQ ?_;refine LR 2 Y3 (eR m rfl) ?_;refine FD 3 177 bb aQ ?_;refine LR 4 Y3 (eI m rfl) ?_;refine FD 7 178 bb cq ?_;refine ta 8 rfl (aN (vs:=ints m.ballot.flat) rfl jY rfl cq rfl (λ_ h=>h.2.1) (ao m.ballot) (iR m 0 rfl (by decide) (whole (ao m.ballot)))) ?_;refine FD 10 182 bb fB ?_;refine ta 11 rfl (aN (vs:=ints m.change.flat) rfl mX rfl fB rfl (λ_ h=>h.2.1) (aJ m.change) (m5 m 0 rfl (by decide) (whole (aJ m.change)))) ?_;refine AL 5 ?_;refine aU (cells:=#[(.int .i64 (m.kind)),(.int .i64 (m.epoch))]) (aa rfl) rfl rfl rfl j9 qX rfl rfl rfl (by as_aux_lemma=>kernel_rfl) (λb68=>EN (AL 6 ?_));refine CQ nt (dL b4 (.slice none 0 0) ([]) (.slice (some ⟨b68,0,none⟩) (2) (2)) [m.kind,m.epoch] (by simp)) (SM [2,1]) (dA 0 rfl rfl rfl rfl) λvR HR hR=>?_
 obtain⟨u1,rfl,rfl⟩:=hR;refine EN (AL 9 ?_);refine CR F6 (jk b4 u1 (bf [m.kind,m.epoch]) m.ballot (by(have:=aT [m.kind,m.epoch]);simp only[BallotT.flat,ViewT.flat,ChangeT.flat,ay,aD,aA,aj]at*;omega)) ID λvR HR hR=>?_
 obtain⟨u2,rfl,rfl⟩:=hR;refine EN (AL 12 ?_);refine CR KL (oh b4 u2 (bf [m.kind,m.epoch]++bf m.ballot.flat) m.change (by(have:=aT [m.kind,m.epoch]);(have:=aT (m.ballot.flat));simp only[BallotT.flat,ViewT.flat,ChangeT.flat,ay,aD,aA,aj]at*;omega)) ID λvR HR hR=>?_
 obtain⟨u3,rfl,rfl⟩:=hR;refine EN (DN (af (ac J3 (sr λ_ J14=>PS ?_))));refine CR qQ (ef b4 u3 (bf [m.kind,m.epoch]++bf m.ballot.flat++bf m.change.flat) (by(have:=aT [m.kind,m.epoch]);(have:=aT (m.ballot.flat));(have:=aT (m.change.flat));simp only[BallotT.flat,ViewT.flat,ChangeT.flat,ay,aD,aA,aj]at*;omega)) ID λvR HR hR=>?_
 obtain⟨_,rfl,rfl⟩:=hR;revert vR;intro u4;refine PS ?_;refine nx J14 (ai (WK [2] (au rfl rfl ?_)));exact⟨_,rfl,congrArg (λb=>[dQ u4 b 5]) (show(bf [m.kind,m.epoch]++bf m.ballot.flat++bf m.change.flat)=dX m by simp[dX,fa,fj,bf, *])⟩;refine PS ?_;refine nx J13 (CN (sr λ_ J15=>PS ?_));refine an ?_ ?_<;>intro h77;refine PS ?_;refine nx J15 (CY (D1 2 bh ?_));refine PD 0 ?_;refine FD 1 0 bb aQ ?_;refine LR 2 Y3 (eR m rfl) ?_;refine FD 5 185 bb bc ?_;refine ta 6 rfl (aN (vs:=ints m.view.flat) rfl eD rfl bc rfl (λ_ h=>h.2.1) (am m.view) (uM m 0 rfl (by decide) (whole (am m.view)))) ?_;refine AL 3 ?_;refine aU (cells:=#[(.int .i64 (m.kind))]) (aa rfl) rfl rfl rfl j9 qX rfl rfl rfl (by as_aux_lemma=>kernel_rfl) (λb81=>EN (AL 4 ?_));refine CQ nt (dL b4 (.slice none 0 0) ([]) (.slice (some ⟨b81,0,none⟩) (1) (1)) [m.kind] (by simp)) (SM [2,1]) (dA 0 rfl rfl rfl rfl) λvR HR hR=>?_
 obtain⟨u1,rfl,rfl⟩:=hR;refine EN (AL 7 ?_);refine CR KK (qy b4 u1 (bf [m.kind]) m.view (by(have:=aT [m.kind]);simp only[BallotT.flat,ViewT.flat,ChangeT.flat,ay,aD,aA,aj]at*;omega)) ID λvR HR hR=>?_
 obtain⟨u2,rfl,rfl⟩:=hR;refine EN (DN (af (ac J3 (sr λ_ J16=>PS ?_))));refine CR qQ (ef b4 u2 (bf [m.kind]++bf m.view.flat) (by(have:=aT [m.kind]);(have:=aT (m.view.flat));simp only[BallotT.flat,ViewT.flat,ChangeT.flat,ay,aD,aA,aj]at*;omega)) ID λvR HR hR=>?_
 obtain⟨_,rfl,rfl⟩:=hR;revert vR;intro u3;refine PS ?_;refine nx J16 (ai (WK [2] (au rfl rfl ?_)));exact⟨_,rfl,congrArg (λb=>[dQ u3 b 5]) (show(bf [m.kind]++bf m.view.flat)=dX m by simp[dX,fa,fj,bf, *])⟩;refine PS ?_;refine nx J15 (CN (sr λ_ J17=>PS ?_));refine an ?_ ?_<;>intro h87;refine PS ?_;refine nx J17 (CY (D1 2 bh ?_));refine PD 0 ?_;refine FD 1 0 bb aQ ?_;refine LR 2 Y3 (eR m rfl) ?_;refine FD 3 1 bb aQ ?_;refine LR 4 Y3 (ce m rfl) ?_;refine FD 7 185 bb bc ?_;refine ta 8 rfl (aN (vs:=ints m.view.flat) rfl eD rfl bc rfl (λ_ h=>h.2.1) (am m.view) (uM m 0 rfl (by decide) (whole (am m.view)))) ?_;refine AL 5 ?_;refine aU (cells:=#[(.int .i64 (m.kind)),(.int .i64 (m.whose))]) (aa rfl) rfl rfl rfl j9 qX rfl rfl rfl (by as_aux_lemma=>kernel_rfl) (λb93=>EN (AL 6 ?_));refine CQ nt (dL b4 (.slice none 0 0) ([]) (.slice (some ⟨b93,0,none⟩) (2) (2)) [m.kind,m.whose] (by simp)) (SM [2,1]) (dA 0 rfl rfl rfl rfl) λvR HR hR=>?_
 obtain⟨u1,rfl,rfl⟩:=hR;refine EN (AL 9 ?_);refine CR KK (qy b4 u1 (bf [m.kind,m.whose]) m.view (by(have:=aT [m.kind,m.whose]);simp only[BallotT.flat,ViewT.flat,ChangeT.flat,ay,aD,aA,aj]at*;omega)) ID λvR HR hR=>?_
 obtain⟨u2,rfl,rfl⟩:=hR;refine EN (DN (af (ac J3 (sr λ_ J18=>PS ?_))));refine CR qQ (ef b4 u2 (bf [m.kind,m.whose]++bf m.view.flat) (by(have:=aT [m.kind,m.whose]);(have:=aT (m.view.flat));simp only[BallotT.flat,ViewT.flat,ChangeT.flat,ay,aD,aA,aj]at*;omega)) ID λvR HR hR=>?_
 obtain⟨_,rfl,rfl⟩:=hR;revert vR;intro u3;refine PS ?_;refine nx J18 (ai (WK [2] (au rfl rfl ?_)));exact⟨_,rfl,congrArg (λb=>[dQ u3 b 5]) (show(bf [m.kind,m.whose]++bf m.view.flat)=dX m by simp[dX,fa,fj,bf, *])⟩;refine PS ?_;refine nx J17 (CN (aR (af (ac J3 (sr λ_ J19=>PS ?_)))));refine CR qQ (ef b4 (.slice none 0 0) ([]) (by simp)) (SM [1,0]) λvR HR hR=>?_
 obtain⟨_,rfl,rfl⟩:=hR;revert vR;intro u1;refine PS ?_;refine nx J19 (ai (WK [2] (au rfl rfl ?_)));exact⟨_,rfl,congrArg (λb=>[dQ u1 b 5]) (show([]:List UInt8)=dX m by simp[dX,bf, *])⟩;refine sr λ_ J20=>P2 ?_
 refine an ?_ ?_<;>intro h30;refine nx J20 (CY (aR ?_))
 exact aF
  (aM (aM (aM (aM (bg rfl (by simp[fj, *]) SB)))))
  (λ_ s=>s)
  (tl9 (():Unit) trivial)
 refine nx J20 (CN (ad (PS ?_)));refine an ?_ ?_<;>intro h32;refine PS ?_;refine ap ?_
 exact aF
  (aM (aM (aM (aM (bg rfl (by simp[fj, *]) SB)))))
  (λ_ s=>s)
  (tl9 (():Unit) trivial)
 refine PS ?_;refine ap ?_
 exact aF
  (aM (aM (aM (aM (bg rfl (by simp[fj, *]) SB)))))
  (λ_ s=>s)
  (tl9 (():Unit) trivial)
 refine sr λ_ J21=>P2 ?_
 refine an ?_ ?_<;>intro h7;refine nx J21 (CY (aR ?_))
 exact aF
  (aM (aM (aM (aM (bg rfl (by simp[fa, *]) SB)))))
  (λ_ s=>s)
  (tl5 (():Unit) trivial)
 refine nx J21 (CN (sr λ_ J22=>P2 ?_));refine an ?_ ?_<;>intro h7;refine nx J22 (CY (aR ?_))
 exact aF
  (aM (aM (aM (aM (bg rfl (by simp[fa, *]) SB)))))
  (λ_ s=>s)
  (tl5 (():Unit) trivial)
 refine nx J22 (CN (ad (PS ?_)));refine an ?_ ?_<;>intro h10;refine PS ?_;refine ap ?_
 exact aF
  (aM (aM (aM (aM (bg rfl (by simp[fa, *]) SB)))))
  (λ_ s=>s)
  (tl5 (():Unit) trivial)
 refine PS ?_;refine ap ?_
 exact aF
  (aM (aM (aM (aM (bg rfl (by simp[fa, *]) SB)))))
  (λ_ s=>s)
  (tl5 (():Unit) trivial)
theorem nc(m:RecT):
 DT 50 #[(.agg (ints m.flat).toArray)] T0 [] (dm (λr' H=>∃u,r'=u∧H=[dQ u (gj m) 5])):=by
 refine BD 77 Tryz.func50 rfl rfl rfl λw0 F hF=>sr λ_ J1=>XY (ints m.flat) λb1=>?_
 refine PS ?_;refine nx J1 (sr λ_ J2=>XA Lw λb4=>?_);refine TL.ownNil 5 (λon=>?_);clear on;refine PS ?_;refine nx J2 (ab λ_ J3=>sr λ_ J4=>FA 0 iv aQ ?_);refine LU 2 Y3 (kh m rfl) ?_;refine nx J4 (aq (sr λ_ J5=>PS ?_));refine an ?_ ?_<;>intro h8;refine PS ?_;refine nx J5 (CY (D1 2 bh ?_));refine PD 0 ?_;refine FD 1 0 iv aQ ?_;refine LR 2 Y3 (kh m rfl) ?_;refine FD 5 2 iv aZ ?_;refine ta 6 rfl (aN (vs:=ints m.row.flat) rfl dD rfl aZ rfl (λ_ h=>h.2.1) (ag m.row) (rk m 0 rfl (by decide) (whole (ag m.row)))) ?_;refine AL 3 ?_;refine aU (cells:=#[(.int .i64 (m.kind))]) (aa rfl) rfl rfl rfl j9 qX rfl rfl rfl (by as_aux_lemma=>kernel_rfl) (λb12=>EN (AL 4 ?_));refine CQ nt (dL b4 (.slice none 0 0) ([]) (.slice (some ⟨b12,0,none⟩) (1) (1)) [m.kind] (by simp)) (SM [2,1]) (dA 0 rfl rfl rfl rfl) λvR HR hR=>?_
 obtain⟨u1,rfl,rfl⟩:=hR;refine EN (AL 7 ?_);refine CR KM (sS b4 u1 (bf [m.kind]) m.row (by(have:=aT [m.kind]);simp only[BallotT.flat,ViewT.flat,ChangeT.flat,ay,aD,aA,aj]at*;omega)) ID λvR HR hR=>?_
 obtain⟨u2,rfl,rfl⟩:=hR;refine EN (DN (af (ac J3 (sr λ_ J6=>PS ?_))));refine CR qQ (ef b4 u2 (bf [m.kind]++gD m.row) (by(have:=aT [m.kind]);(have:=ia m.row);simp only[BallotT.flat,ViewT.flat,ChangeT.flat,ay,aD,aA,aj]at*;omega)) ID λvR HR hR=>?_
 obtain⟨_,rfl,rfl⟩:=hR;revert vR;intro u3;refine PS ?_;refine nx J6 (ai (WK [2] (au rfl rfl ?_)));exact⟨_,rfl,congrArg (λb=>[dQ u3 b 5]) (show(bf [m.kind]++gD m.row)=gj m by simp[gj,fa,fj,bf, *])⟩;refine PS ?_;refine nx J5 (CN (sr λ_ J7=>PS ?_));refine an ?_ ?_<;>intro h18;refine PS ?_;refine nx J7 (CY (D1 2 bh ?_));refine PD 0 ?_;refine FD 1 0 iv aQ ?_;refine LR 2 Y3 (kh m rfl) ?_;refine FD 3 1 iv aQ ?_;refine LR 4 Y3 (E4 m rfl) ?_;refine FD 7 2 iv aZ ?_;refine ta 8 rfl (aN (vs:=ints m.row.flat) rfl dD rfl aZ rfl (λ_ h=>h.2.1) (ag m.row) (rk m 0 rfl (by decide) (whole (ag m.row)))) ?_;refine AL 5 ?_;refine aU (cells:=#[(.int .i64 (m.kind)),(.int .i64 (m.whose))]) (aa rfl) rfl rfl rfl j9 qX rfl rfl rfl (by as_aux_lemma=>kernel_rfl) (λb24=>EN (AL 6 ?_));refine CQ nt (dL b4 (.slice none 0 0) ([]) (.slice (some ⟨b24,0,none⟩) (2) (2)) [m.kind,m.whose] (by simp)) (SM [2,1]) (dA 0 rfl rfl rfl rfl) λvR HR hR=>?_
 obtain⟨u1,rfl,rfl⟩:=hR;refine EN (AL 9 ?_);refine CR KM (sS b4 u1 (bf [m.kind,m.whose]) m.row (by(have:=aT [m.kind,m.whose]);simp only[BallotT.flat,ViewT.flat,ChangeT.flat,ay,aD,aA,aj]at*;omega)) ID λvR HR hR=>?_
 obtain⟨u2,rfl,rfl⟩:=hR;refine EN (DN (af (ac J3 (sr λ_ J8=>PS ?_))));refine CR qQ (ef b4 u2 (bf [m.kind,m.whose]++gD m.row) (by(have:=aT [m.kind,m.whose]);(have:=ia m.row);simp only[BallotT.flat,ViewT.flat,ChangeT.flat,ay,aD,aA,aj]at*;omega)) ID λvR HR hR=>?_
 obtain⟨_,rfl,rfl⟩:=hR;revert vR;intro u3;refine PS ?_;refine nx J8 (ai (WK [2] (au rfl rfl ?_)));exact⟨_,rfl,congrArg (λb=>[dQ u3 b 5]) (show(bf [m.kind,m.whose]++gD m.row)=gj m by simp[gj,fa,fj,bf, *])⟩;refine PS ?_;refine nx J7 (CN (sr λ_ J9=>PS ?_));refine an ?_ ?_<;>intro h30;refine PS ?_;refine nx J9 (CY (ad (PS ?_)));refine FA 0 iv aQ ?_;refine LU 2 Y3 (kh m rfl) ?_;refine FA 1 iv aQ ?_;refine LU 2 Y3 (E4 m rfl) ?_;refine aU (cells:=#[(.int .i64 (m.kind)),(.int .i64 (m.whose))]) (aa rfl) rfl rfl rfl j9 qX rfl rfl rfl (by as_aux_lemma=>kernel_rfl) (λb36=>CQ nt (dL b4 (.slice none 0 0) ([]) (.slice (some ⟨b36,0,none⟩) (2) (2)) [m.kind,m.whose] (by simp)) (SM [2,1]) (dA 0 rfl rfl rfl rfl) λvR HR hR=>?_);obtain⟨u1,rfl,rfl⟩:=hR;refine ap (af (ac J3 (sr λ_ J10=>PS ?_)));refine CR qQ (ef b4 u1 (bf [m.kind,m.whose]) (by(have:=aT [m.kind,m.whose]);simp only[BallotT.flat,ViewT.flat,ChangeT.flat,ay,aD,aA,aj]at*;omega)) ID λvR HR hR=>?_
 obtain⟨_,rfl,rfl⟩:=hR;revert vR;intro u2;refine PS ?_;refine nx J10 (ai (WK [2] (au rfl rfl ?_)));exact⟨_,rfl,congrArg (λb=>[dQ u2 b 5]) (show(bf [m.kind,m.whose])=gj m by simp[gj,fa,fj,bf, *])⟩;refine PS ?_;refine nx J9 (CN (sr λ_ J11=>PS ?_));refine an ?_ ?_<;>intro h39;refine PS ?_;refine nx J11 (CY (D1 2 bh ?_));refine PD 0 ?_;refine FD 1 0 iv aQ ?_;refine LR 2 Y3 (kh m rfl) ?_;refine FD 3 176 iv aQ ?_;refine LR 4 Y3 (RecT.at_epoch m rfl) ?_;refine FD 7 177 iv cq ?_;refine ta 8 rfl (aN (vs:=ints m.ballot.flat) rfl jY rfl cq rfl (λ_ h=>h.2.1) (ao m.ballot) (qh m 0 rfl (by decide) (whole (ao m.ballot)))) ?_;refine AL 5 ?_;refine aU (cells:=#[(.int .i64 (m.kind)),(.int .i64 (m.epoch))]) (aa rfl) rfl rfl rfl j9 qX rfl rfl rfl (by as_aux_lemma=>kernel_rfl) (λb45=>EN (AL 6 ?_));refine CQ nt (dL b4 (.slice none 0 0) ([]) (.slice (some ⟨b45,0,none⟩) (2) (2)) [m.kind,m.epoch] (by simp)) (SM [2,1]) (dA 0 rfl rfl rfl rfl) λvR HR hR=>?_
 obtain⟨u1,rfl,rfl⟩:=hR;refine EN (AL 9 ?_);refine CR F6 (jk b4 u1 (bf [m.kind,m.epoch]) m.ballot (by(have:=aT [m.kind,m.epoch]);simp only[BallotT.flat,ViewT.flat,ChangeT.flat,ay,aD,aA,aj]at*;omega)) ID λvR HR hR=>?_
 obtain⟨u2,rfl,rfl⟩:=hR;refine EN (DN (af (ac J3 (sr λ_ J12=>PS ?_))));refine CR qQ (ef b4 u2 (bf [m.kind,m.epoch]++bf m.ballot.flat) (by(have:=aT [m.kind,m.epoch]);(have:=aT (m.ballot.flat));simp only[BallotT.flat,ViewT.flat,ChangeT.flat,ay,aD,aA,aj]at*;omega)) ID λvR HR hR=>?_
 obtain⟨_,rfl,rfl⟩:=hR;revert vR;intro u3;refine PS ?_;refine nx J12 (ai (WK [2] (au rfl rfl ?_)));exact⟨_,rfl,congrArg (λb=>[dQ u3 b 5]) (show(bf [m.kind,m.epoch]++bf m.ballot.flat)=gj m by simp[gj,fa,fj,bf, *])⟩;refine PS ?_;refine nx J11 (CN (sr λ_ J13=>PS ?_));refine an ?_ ?_<;>intro h51;refine PS ?_;refine nx J13 (CY (D1 2 bh ?_));refine PD 0 ?_;refine FD 1 0 iv aQ ?_;refine LR 2 Y3 (kh m rfl) ?_;refine FD 3 176 iv aQ ?_;refine LR 4 Y3 (RecT.at_epoch m rfl) ?_;refine FD 7 177 iv cq ?_;refine ta 8 rfl (aN (vs:=ints m.ballot.flat) rfl jY rfl cq rfl (λ_ h=>h.2.1) (ao m.ballot) (qh m 0 rfl (by decide) (whole (ao m.ballot)))) ?_;refine FD 10 179 iv fB ?_;refine ta 11 rfl (aN (vs:=ints m.change.flat) rfl mX rfl fB rfl (λ_ h=>h.2.1) (aJ m.change) (Lm m 0 rfl (by decide) (whole (aJ m.change)))) ?_;refine AL 5 ?_;refine aU (cells:=#[(.int .i64 (m.kind)),(.int .i64 (m.epoch))]) (aa rfl) rfl rfl rfl j9 qX rfl rfl rfl (by as_aux_lemma=>kernel_rfl) (λb57=>EN (AL 6 ?_));refine CQ nt (dL b4 (.slice none 0 0) ([]) (.slice (some ⟨b57,0,none⟩) (2) (2)) [m.kind,m.epoch] (by simp)) (SM [2,1]) (dA 0 rfl rfl rfl rfl) λvR HR hR=>?_
 obtain⟨u1,rfl,rfl⟩:=hR;refine EN (AL 9 ?_);refine CR F6 (jk b4 u1 (bf [m.kind,m.epoch]) m.ballot (by(have:=aT [m.kind,m.epoch]);simp only[BallotT.flat,ViewT.flat,ChangeT.flat,ay,aD,aA,aj]at*;omega)) ID λvR HR hR=>?_
 obtain⟨u2,rfl,rfl⟩:=hR;refine EN (AL 12 ?_);refine CR KL (oh b4 u2 (bf [m.kind,m.epoch]++bf m.ballot.flat) m.change (by(have:=aT [m.kind,m.epoch]);(have:=aT (m.ballot.flat));simp only[BallotT.flat,ViewT.flat,ChangeT.flat,ay,aD,aA,aj]at*;omega)) ID λvR HR hR=>?_
 obtain⟨u3,rfl,rfl⟩:=hR;refine EN (DN (af (ac J3 (sr λ_ J14=>PS ?_))));refine CR qQ (ef b4 u3 (bf [m.kind,m.epoch]++bf m.ballot.flat++bf m.change.flat) (by(have:=aT [m.kind,m.epoch]);(have:=aT (m.ballot.flat));(have:=aT (m.change.flat));simp only[BallotT.flat,ViewT.flat,ChangeT.flat,ay,aD,aA,aj]at*;omega)) ID λvR HR hR=>?_
 obtain⟨_,rfl,rfl⟩:=hR;revert vR;intro u4;refine PS ?_;refine nx J14 (ai (WK [2] (au rfl rfl ?_)));exact⟨_,rfl,congrArg (λb=>[dQ u4 b 5]) (show(bf [m.kind,m.epoch]++bf m.ballot.flat++bf m.change.flat)=gj m by simp[gj,fa,fj,bf, *])⟩;refine PS ?_;refine nx J13 (CN (sr λ_ J15=>PS ?_));refine an ?_ ?_<;>intro h66;refine PS ?_;refine nx J15 (CY (D1 2 bh ?_));refine PD 0 ?_;refine FD 1 0 iv aQ ?_;refine LR 2 Y3 (kh m rfl) ?_;refine FD 5 182 iv bc ?_;refine ta 6 rfl (aN (vs:=ints m.view.flat) rfl eD rfl bc rfl (λ_ h=>h.2.1) (am m.view) (Oq m 0 rfl (by decide) (whole (am m.view)))) ?_;refine AL 3 ?_;refine aU (cells:=#[(.int .i64 (m.kind))]) (aa rfl) rfl rfl rfl j9 qX rfl rfl rfl (by as_aux_lemma=>kernel_rfl) (λb70=>EN (AL 4 ?_));refine CQ nt (dL b4 (.slice none 0 0) ([]) (.slice (some ⟨b70,0,none⟩) (1) (1)) [m.kind] (by simp)) (SM [2,1]) (dA 0 rfl rfl rfl rfl) λvR HR hR=>?_
 obtain⟨u1,rfl,rfl⟩:=hR;refine EN (AL 7 ?_);refine CR KK (qy b4 u1 (bf [m.kind]) m.view (by(have:=aT [m.kind]);simp only[BallotT.flat,ViewT.flat,ChangeT.flat,ay,aD,aA,aj]at*;omega)) ID λvR HR hR=>?_
 obtain⟨u2,rfl,rfl⟩:=hR;refine EN (DN (af (ac J3 (sr λ_ J16=>PS ?_))));refine CR qQ (ef b4 u2 (bf [m.kind]++bf m.view.flat) (by(have:=aT [m.kind]);(have:=aT (m.view.flat));simp only[BallotT.flat,ViewT.flat,ChangeT.flat,ay,aD,aA,aj]at*;omega)) ID λvR HR hR=>?_
 obtain⟨_,rfl,rfl⟩:=hR;revert vR;intro u3;refine PS ?_;refine nx J16 (ai (WK [2] (au rfl rfl ?_)));exact⟨_,rfl,congrArg (λb=>[dQ u3 b 5]) (show(bf [m.kind]++bf m.view.flat)=gj m by simp[gj,fa,fj,bf, *])⟩;refine PS ?_;refine nx J15 (CN (aR (af (ac J3 (sr λ_ J17=>PS ?_)))));refine CR qQ (ef b4 (.slice none 0 0) ([]) (by simp)) (SM [1,0]) λvR HR hR=>?_
 obtain⟨_,rfl,rfl⟩:=hR;revert vR;intro u1;refine PS ?_;refine nx J17 (ai (WK [2] (au rfl rfl ?_)));exact⟨_,rfl,congrArg (λb=>[dQ u1 b 5]) (show([]:List UInt8)=gj m by simp[gj,fa,fj,bf, *])⟩
open Dsk Wal
theorem p4(who:Int)(hm:cI who=true):DT 34 #[.int .i64 who] T0 [] (dm (λr' H=>∃u,r'=u∧H=[own u 2 [.int .i64 ((who+1)%5), .int .i64 ((who+2)%5)] 3 1])):=by
 have:=pg who;rw[show gI who=[(who+1)%5,(who+2)%5]by rw[gI,if_pos hm]]at this;exact this
theorem C6(r:Nat)(x:RepT)(op err val:Int)(rs:List ReplyT)(hrs:rs.length≤1000000):
 DT 97 #[(.pointer (some ⟨r,0,none⟩)),(.int .i64 (op)),(.int .i64 (err)),(.int .i64 (val))] T0 [ah r (RepT.cells x) 123,own x.replies ((rs).length) (ints (List.flatMap ReplyT.flat (rs))) 37 3] (dm (λ_ H=>∃v',v'.oneCell'=true∧H=[ah r (RepT.cells {x with replies:=v'}) 123,own v' (rs++[ReplyT.mk op err val]).length (ints (List.flatMap ReplyT.flat (rs++[ReplyT.mk op err val]))) 37 3])):=by
 refine BD 21 Tryz.func97 rfl rfl rfl λw0 F hF=>ad (P3 ?_)
 refine FA 1942 bi xh ?_;refine LT 0 IG x.replies ?_ (hc:=by exact RepT.at_replies x rfl);refine P3 ?_;refine tp (xM (cs:=ints (ReplyT.mk op err val).flat) (segs:=[[Value.int .i64 0],[Value.int .i64 0],[Value.int .i64 0]]) (res:=[[Value.int .i64 op],[Value.int .i64 err],[Value.int .i64 val]]) (parts:=[(0,[Value.int .i64 op]),(1,[Value.int .i64 err]),(2,[Value.int .i64 val])]) rfl rfl Tryz.underlying37 (by kernel_rfl) (by kernel_rfl) rfl (e9 rfl rfl (e9 rfl rfl (e9 rfl rfl lr))) (ReplyT.eq (ReplyT.mk op err val)).symm) ?_;refine aU (cells:=(ints (ReplyT.mk op err val).flat).toArray) (aa rfl) rfl rfl rfl IG Gj rfl rfl rfl (mm (ReplyT.len (ReplyT.mk op err val)) (by simp)) (λb17=>?_);change TL _ _ _ _ _ _ _ _ _ [ah b17 (ints (ReplyT.mk op err val).flat) 37,ah r (RepT.cells x) 123,own x.replies ((rs).length) (ints (List.flatMap ReplyT.flat (rs))) 37 3];refine cH (k:=2) (news:=ints (ReplyT.mk op err val).flat) (nn':=(rs++[ReplyT.mk op err val]).length) (xs':=ints (List.flatMap ReplyT.flat (rs++[ReplyT.mk op err val]))) (aa rfl) rfl rfl rfl IG Gj rfl rfl rfl rfl rfl rfl (λ_ _=>ju (ReplyT.len _) (RO 0) (by rw[aV,ic])) (bw _) (by simp only[maxLen];omega) (by omega) (by simp) (by simp[ints]) (λv18 ov18=>PS ?_);refine FA 1942 bi xh ?_;exact bD (i:=1) (aa rfl) rfl rfl rfl rfl ov18 xh rfl rfl (LB (cN _)) (RepT.set_replies x rfl _) rfl (ap (WK [1,1] (bA rfl ⟨_,ov18,rfl⟩)))
theorem Da(r:Nat)(x:RepT):
 DT 21 #[(.pointer (some ⟨r,0,none⟩))] T0 [ah r (RepT.cells x) 123] (RI (.agg (ints x.view.flat).toArray) [ah r (RepT.cells x) 123]):=by
 refine BD 7 Tryz.func21 rfl rfl rfl λw0 F hF=>sr λ_ J1=>XZ rr (ints ViewT.zero.flat) λb2=>?_
 refine nx J1 (sr λ_ J2=>P2 ?_);refine FA 2 bi bc ?_;refine LV 1 eD bc am cM (y:=x.view) ?_;refine SW 0 bc am ?_;refine nx J2 (ai (RC 0 [1] eD bc (am _) ?_));exact⟨rfl,rfl⟩
theorem vO(r:Nat)(x:RepT)(who:Int):
 DT 42 #[(.pointer (some ⟨r,0,none⟩)),(.int .i64 (who))] T0 [ah r (RepT.cells x) 123] (RI (.tuple #[.agg (ints (da x.mirror who).flat).toArray, .bool (fe x.mirror who)]) [ah r (RepT.cells x) 123]):=by
 refine BD 16 Tryz.func42 rfl rfl rfl λw0 F hF=>sr λ_ J1=>XZ uz (ints RowT.zero.flat) λb4=>?_
 refine PS ?_;refine nx J1 (ab λ_ J2=>D0 bh ?_);refine PD 0 ?_;refine PD 1 ?_;refine FD 2 183 bi nI ?_;refine PD 3 ?_;refine PD 5 ?_;refine PD 6 ?_;refine FD 7 183 bi nI ?_;refine PD 8 ?_;refine AL 4 ?_;refine CE Ho (lA r 183 123 (λu=>RepT.cells {x with mirror:=u}) (dV x) x.mirror who) (SM [1]) ?_;refine EN (AL 9 ?_);refine CE KO (mQ r 183 123 (λu=>RepT.cells {x with mirror:=u}) (dV x) x.mirror who) ID ?_;refine EN (AL 10 ?_);refine SW 1 aZ ag ?_;refine EN (PD 11 ?_);refine DN (ac J2 (ai (RT 1 [0] dD aZ (ag _) ?_)));exact⟨rfl,rfl⟩
theorem zl(r:Nat)(x:RepT)(rs:List ReplyT)(hrs:rs.length≤1000000):
 DT 19 #[(.pointer (some ⟨r,0,none⟩))] T0 [ah r (RepT.cells x) 123,own x.replies ((rs).length) (ints (List.flatMap ReplyT.flat (rs))) 37 3] (dm (λr' H=>∃u,r'=u∧H=[ah r (RepT.cells x) 123,own x.replies rs.length (ints (List.flatMap ReplyT.flat rs)) 37 3,own u rs.length (ints (List.flatMap ReplyT.flat rs)) 37 3])):=by
 refine BD 8 Tryz.func19 rfl rfl rfl λw0 F hF=>sr λ_ J1=>M8 37 3 (λ_=>PS ?_)
 refine nx J1 (sr λ_ J2=>P2 ?_);refine FA 1942 bi xh ?_;refine LT 1 IG x.replies ?_ (hc:=by exact RepT.at_replies x rfl);refine cH (k:=0) (news:=ints (List.flatMap ReplyT.flat rs)) (nn':=rs.length) (xs':=ints (List.flatMap ReplyT.flat rs)) (aa rfl) rfl rfl rfl IG Gj rfl rfl rfl rfl rfl rfl (λ_ s=>OF 2 rfl rfl s) (bw _) (by simp only[maxLen];omega) (by omega) (by simp) (by simp) (λv7 ov7=>PS ?_);exact nx J2 (ai (WK [1,1,0] (au rfl rfl ⟨_,rfl,rfl⟩)))
end Go.Proofs.YtjblgopghhgflaaGreat
end

section
namespace Api
open Go Leg Codec Dsk Wal
def j6(w:Int)(x:RowT):RecT:= {RecT.zero with kind:=1,whose:=w,row:=x}
def jp(w:Int):RecT:= {RecT.zero with kind:=2,whose:=w}
def kZ(v:ViewT):RecT:= {RecT.zero with kind:=5,view:=v}
def sw(v:Int):MsgT:= {MsgT.zero with kind:=1,version:=v}
def gP(w:Int)(x:RowT):MsgT:= {MsgT.zero with kind:=9,whose:=w,row:=x}
section
variable {x:RepT} {from' w:Int} {y:RowT} {recs:List (List UInt8)}
end
section
variable {x:RepT} {from' w:Int} {v:ViewT} {recs:List (List UInt8)}
end
end Api
end

section
namespace Go.Proofs.YtjblgopghhgflaaGreat
open Go Leg Codec Api Dsk Wal
theorem FS(r:Nat)(x:RepT)(o:OpT):
 DT 96 #[(.pointer (some ⟨r,0,none⟩)),(.agg (ints o.flat).toArray)] T0 [ah r (RepT.cells x) 123] (RI (.tuple #[.agg (ints (kc x o).1.flat).toArray, .int .i64 (kc x o).2.1, .int .i64 (kc x o).2.2]) [ah r (RepT.cells x) 123]):=by
 refine BD 121 Tryz.func96 rfl rfl rfl λw0 F hF=>sr λ_ J1=>XY (ints o.flat) λb3=>?_
 refine XZ uz (ints RowT.zero.flat) λb4=>?_
 refine P2 ?_;refine nx J1 (ab λ_ J2=>ab λ_ J3=>D1 2 bh ?_);refine PD 0 ?_;refine PD 1 ?_;refine FD 2 2 bi bc ?_;refine ta 3 rfl (aN (vs:=ints x.view.flat) rfl eD rfl bc rfl (λ_ h=>h.2.1) (am x.view) (fO x 0 rfl (by decide) (whole (am x.view)))) ?_;refine PD 4 ?_;refine PD 5 ?_;refine FD 6 0 bi aQ ?_;refine LR 7 Y3 (cy x rfl) ?_;refine AL 8 ?_;refine CE pI (dx x.view x.id) ID ?_;refine aX ?_ ?_<;>intro h17;refine EN (PD 9 ?_);refine DN (ac J3 (CN (qx J2 (ab λ_ J4=>sr λ_ J5=>FA 3 fC aQ ?_))));refine LU 1 Y3 (o9 o rfl) ?_;refine PS ?_;refine an ?_ ?_<;>intro h22;have hkb:mR o.key=false:=decide_eq_false (by omega);refine PS ?_
 iterate 3 refine UT ?_
 refine PS ?_;refine nx J5 (CY (sr λ_ J6=>BV ((ints RowT.zero.flat).toArray) ?_));refine SW 0 aZ ag ?_;refine P2 ?_;refine nx J6 (ai (ae (RU 0 [2] dD aZ (ag _) ?_)));exact⟨by simp[kc,gR, *],rfl⟩;refine PS ?_;refine FA 3 fC aQ ?_;refine LU 1 Y3 (o9 o rfl) ?_;refine PS ?_;refine an ?_ ?_<;>intro h26;have hkb:mR o.key=false:=decide_eq_false (by omega);refine PS ?_;refine nx J5 (CY (sr λ_ J7=>BV ((ints RowT.zero.flat).toArray) ?_));refine SW 0 aZ ag ?_;refine P2 ?_;refine nx J7 (ai (ae (RU 0 [2] dD aZ (ag _) ?_)));exact⟨by simp[kc,gR, *],rfl⟩;have hkb:mR o.key=true:=decide_eq_true (by omega);refine PS ?_;refine nx J5 (CN (qx J4 (ab λ_ J8=>sr λ_ J9=>FA 0 fC aQ ?_)));refine LU 1 Y3 (cU o rfl) ?_;refine PS ?_;refine an ?_ ?_<;>intro h31;refine nx J9 (CY (ab λ_ J10=>D1 1 bh ?_));refine ta 0 rfl (jR (cells:=(ints RowT.zero.flat).toArray) rfl rfl (by as_aux_lemma=>kernel_rfl)) ?_;refine PD 1 ?_;refine PD 2 ?_;refine FD 3 1068 bi vj ?_;refine FD 4 3 fC aQ ?_;refine LR 5 Y3 (o9 o rfl) ?_;refine AL 6 ?_;refine CE Mc (pT r 1068 123 (λu=>RepT.cells {x with book:=u}) (gA x) x.book o.key) (SM [2]) ?_;refine EN (AL 7 ?_);refine SW 1 aZ ag ?_;refine EN (PD 8 ?_);refine PD 9 ?_;refine DN (ac J10 (ai (ae (RU 1 [0] dD aZ (ag _) ?_))));exact⟨by simp[kc,gR, *],rfl⟩;refine nx J9 (CN (qx J8 (ab λ_ J11=>sr λ_ J12=>P2 ?_)));refine FA 1938 bi kM ?_;refine LU 2 Y4 (xJ x rfl) ?_;refine aX ?_ ?_<;>intro h42
 refine nx J12 (CY (sr λ_ J13=>BV ((ints RowT.zero.flat).toArray) ?_));refine SW 0 aZ ag ?_;refine P2 ?_;refine nx J13 (ai (ae (RU 0 [2] dD aZ (ag _) ?_)));exact⟨by simp[kc,gR, *],rfl⟩;refine nx J12 (CN (qx J11 (sr λ_ J14=>XZ uz (ints RowT.zero.flat) λb7=>?_)));refine nx J14 (sr λ_ J15=>PS ?_);refine nx J15 (ab λ_ J16=>sr λ_ J17=>FA 0 fC aQ ?_);refine LU 2 Y3 (cU o rfl) ?_;refine nx J17 (aq (sr λ_ J18=>PS ?_));refine an ?_ ?_<;>intro h47;refine PS ?_;refine nx J18 (CY (D2 3 2 bh ?_));refine PD 0 ?_;refine PD 1 ?_;refine FD 2 9 bi aZ ?_;refine ta 3 rfl (aN (vs:=ints x.own.flat) rfl dD rfl aZ rfl (λ_ h=>h.2.1) (ag x.own) (xH x 0 rfl (by decide) (whole (ag x.own)))) ?_;refine FD 4 3 fC aQ ?_;refine LR 5 Y3 (o9 o rfl) ?_;refine FD 6 4 fC aQ ?_;refine LR 7 Y3 (w7 o rfl) ?_;refine AL 8 ?_;refine CE MI (A6 x.own o.key o.n) ID ?_;refine EN (PD 9 ?_);refine PD 10 ?_;refine PD 11 ?_;refine AL 12 ?_;refine SW 0 aZ ag ?_;refine EN (PD 13 ?_);refine DN (af (ac J16 (ab λ_ J19=>sr λ_ J20=>P2 ?_)));refine an ?_ ?_<;>intro h98;refine nx J20 (CY (sr λ_ J21=>BV ((ints RowT.zero.flat).toArray) ?_));refine PS ?_;refine SW 1 aZ ag ?_;refine P2 ?_;refine nx J21 (ai (ae (RU 1 [3] dD aZ (ag _) ?_)));exact⟨by simp[kc,gR, *],rfl⟩;refine nx J20 (CN (qx J19 (ab λ_ J22=>ab λ_ J23=>D2 2 3 bh ?_)));refine FD 0 0 fC aQ ?_;refine LR 1 Y3 (cU o rfl) ?_;refine PD 2 ?_;refine iN ?_ ?_<;>intro h103
 · exact absurd h47 h103
 refine PD 3 ?_;refine NT 4 ?_;refine NT 5 ?_;refine NT 6 ?_;refine NT 7 ?_;refine NT 8 ?_;refine NT 9 ?_;refine NT 10 ?_;refine NT 11 ?_;refine NT 12 ?_;refine NT 13 ?_;refine NT 14 ?_;refine NT 15 ?_;refine NT 16 ?_;refine PD 17 ?_;refine DN (ac J23 (CN (qx J22 (sr λ_ J24=>LW 0 dD aZ ag ?_))));refine SW 1 aZ ag ?_;refine P2 ?_;refine nx J24 (ai (RU 1 [3] dD aZ (ag _) ?_));exact⟨by simp[kc,gR, *],rfl⟩;refine PS ?_;refine nx J18 (CN (sr λ_ J25=>PS ?_));refine an ?_ ?_<;>intro h61;refine PS ?_;refine nx J25 (CY (D2 3 2 bh ?_));refine PD 0 ?_;refine PD 1 ?_;refine FD 2 9 bi aZ ?_;refine ta 3 rfl (aN (vs:=ints x.own.flat) rfl dD rfl aZ rfl (λ_ h=>h.2.1) (ag x.own) (xH x 0 rfl (by decide) (whole (ag x.own)))) ?_;refine FD 4 3 fC aQ ?_;refine LR 5 Y3 (o9 o rfl) ?_;refine FD 6 4 fC aQ ?_;refine LR 7 Y3 (w7 o rfl) ?_;refine AL 8 ?_;refine CE MH (A7 x.own o.key o.n) ID ?_;refine EN (PD 9 ?_);refine PD 10 ?_;refine PD 11 ?_;refine AL 12 ?_;refine SW 0 aZ ag ?_;refine EN (PD 13 ?_);refine DN (af (ac J16 (ab λ_ J26=>sr λ_ J27=>P2 ?_)));refine an ?_ ?_<;>intro h98;refine nx J27 (CY (sr λ_ J28=>BV ((ints RowT.zero.flat).toArray) ?_));refine PS ?_;refine SW 1 aZ ag ?_;refine P2 ?_;refine nx J28 (ai (ae (RU 1 [3] dD aZ (ag _) ?_)));exact⟨by simp[kc,gR, *],rfl⟩;refine nx J27 (CN (qx J26 (ab λ_ J29=>ab λ_ J30=>D2 2 3 bh ?_)));refine FD 0 0 fC aQ ?_;refine LR 1 Y3 (cU o rfl) ?_;refine PD 2 ?_;refine iN ?_ ?_<;>intro h103;refine PD 3 ?_
 refine PD 4 ?_;refine PD 5 ?_;refine FD 6 1068 bi vj ?_;refine PD 7 ?_;refine PD 8 ?_;refine FD 9 0 bi aQ ?_;refine LR 10 Y3 (cy x rfl) ?_;refine FD 11 3 fC aQ ?_;refine LR 12 Y3 (o9 o rfl) ?_;refine FD 14 4 fC aQ ?_;refine LR 15 Y3 (w7 o rfl) ?_;refine AL 13 ?_;refine CE L4 (oT r 1068 123 (λu=>RepT.cells {x with book:=u}) (gA x) x.book x.id o.key) (SM [3]) ?_;refine EN (PD 16 ?_);refine iN ?_ ?_<;>intro h117;refine PD 17 ?_;refine DN (ac J30 (CY (sr λ_ J31=>BV ((ints RowT.zero.flat).toArray) ?_)));refine SW 2 aZ ag ?_;refine P2 ?_;refine nx J31 (ai (ae (RU 2 [0] dD aZ (ag _) ?_)));exact⟨by simp[kc,gR, *],rfl⟩;refine PD 17 ?_;refine DN (ac J30 (CN (qx J29 (sr λ_ J32=>LW 1 dD aZ ag ?_))));refine SW 2 aZ ag ?_;refine P2 ?_;refine nx J32 (ai (RU 2 [0] dD aZ (ag _) ?_));exact⟨by simp[kc,gR, *],rfl⟩
 · exact absurd h47 h103
 refine PS ?_;refine nx J25 (CN (sr λ_ J33=>PS ?_));refine an ?_ ?_<;>intro h75;refine PS ?_;refine nx J33 (CY (ab λ_ J34=>D2 2 3 bh ?_));refine FD 0 2 fC aQ ?_;refine LR 1 Y3 (il o rfl) ?_;refine PD 2 ?_;refine PD 3 ?_;refine FD 4 0 bi aQ ?_;refine LR 5 Y3 (cy x rfl) ?_;refine PD 6 ?_;refine iN ?_ ?_<;>intro h82;refine DN (ac J34 (CY (D2 3 2 bh ?_)));refine PD 0 ?_;refine PD 1 ?_;refine FD 2 9 bi aZ ?_;refine ta 3 rfl (aN (vs:=ints x.own.flat) rfl dD rfl aZ rfl (λ_ h=>h.2.1) (ag x.own) (xH x 0 rfl (by decide) (whole (ag x.own)))) ?_;refine FD 4 3 fC aQ ?_;refine LR 5 Y3 (o9 o rfl) ?_;refine FD 6 4 fC aQ ?_;refine LR 7 Y3 (w7 o rfl) ?_;refine FD 8 2 fC aQ ?_;refine LR 9 Y3 (il o rfl) ?_;refine AL 10 ?_;refine CE MG (zj x.own o.key o.n o.to') ID ?_;refine EN (PD 11 ?_);refine PD 12 ?_;refine PD 13 ?_;refine AL 14 ?_;refine SW 0 aZ ag ?_;refine EN (PD 15 ?_);refine DN (af (ac J16 (ab λ_ J35=>sr λ_ J36=>P2 ?_)));refine an ?_ ?_<;>intro h98;refine nx J36 (CY (sr λ_ J37=>BV ((ints RowT.zero.flat).toArray) ?_));refine PS ?_;refine SW 1 aZ ag ?_;refine P2 ?_;refine nx J37 (ai (ae (RU 1 [3] dD aZ (ag _) ?_)));exact⟨by simp[kc,gR, *],rfl⟩;refine nx J36 (CN (qx J35 (ab λ_ J38=>ab λ_ J39=>D2 2 3 bh ?_)));refine FD 0 0 fC aQ ?_;refine LR 1 Y3 (cU o rfl) ?_;refine PD 2 ?_;refine iN ?_ ?_<;>intro h103;refine PD 3 ?_;refine PD 4 ?_;refine PD 5 ?_;refine FD 6 1068 bi vj ?_;refine PD 7 ?_;refine PD 8 ?_;refine FD 9 0 bi aQ ?_
 refine LR 10 Y3 (cy x rfl) ?_;refine FD 11 3 fC aQ ?_;refine LR 12 Y3 (o9 o rfl) ?_;refine FD 14 4 fC aQ ?_;refine LR 15 Y3 (w7 o rfl) ?_;refine AL 13 ?_;refine CE L4 (oT r 1068 123 (λu=>RepT.cells {x with book:=u}) (gA x) x.book x.id o.key) (SM [3]) ?_;refine EN (PD 16 ?_);refine iN ?_ ?_<;>intro h117;refine PD 17 ?_;refine DN (ac J39 (CY (sr λ_ J40=>BV ((ints RowT.zero.flat).toArray) ?_)));refine SW 2 aZ ag ?_;refine P2 ?_;refine nx J40 (ai (ae (RU 2 [0] dD aZ (ag _) ?_)));exact⟨by simp[kc,gR, *],rfl⟩;refine PD 17 ?_;refine DN (ac J39 (CN (qx J38 (sr λ_ J41=>LW 1 dD aZ ag ?_))));refine SW 2 aZ ag ?_;refine P2 ?_;refine nx J41 (ai (RU 2 [0] dD aZ (ag _) ?_));exact⟨by simp[kc,gR, *],rfl⟩
 · exact absurd h47 h103
 refine DN (ac J34 (CN (aR (af (ac J16 (ab λ_ J42=>sr λ_ J43=>P2 ?_))))));refine nx J43 (CY (sr λ_ J44=>BV ((ints RowT.zero.flat).toArray) ?_));refine PS ?_;refine SW 1 aZ ag ?_;refine P2 ?_;refine nx J44 (ai (ae (RU 1 [3] dD aZ (ag _) ?_)));exact⟨by simp[kc,gR, *],rfl⟩;refine PS ?_;refine nx J33 (CN (aR (af (ac J16 (ab λ_ J45=>sr λ_ J46=>P2 ?_)))));refine nx J46 (CY (sr λ_ J47=>BV ((ints RowT.zero.flat).toArray) ?_));refine PS ?_;refine SW 1 aZ ag ?_;refine P2 ?_;refine nx J47 (ai (ae (RU 1 [3] dD aZ (ag _) ?_)));exact⟨by simp[kc,gR, *],rfl⟩;refine EN (PD 9 ?_);refine DN (ac J3 (CY (sr λ_ J48=>BV ((ints RowT.zero.flat).toArray) ?_)));refine SW 0 aZ ag ?_;refine P2 ?_;refine nx J48 (ai (ae (RU 0 [2] dD aZ (ag _) ?_)));exact⟨by simp[kc,gR, *],rfl⟩
theorem Dt(x:Value)(l:List Int)(v:Int)(hl:l.length≤1000000):
    DT 179 #[x,(.int .i64 (v))] (IsI .i64 x l) [] (dm (λr' H=>∃n:Int,r'= .int .i64 n∧(decide (n≥0)=true↔v∈l)∧H=[])):=by
 refine BD 19 Tryz.func179 rfl rfl rfl λw0 F hF=>sr λ_ J1=>PS ?_
 refine nx J1 (ab λ_ J2=>sr λ_ J3=>PS ?_);refine tp (dF rfl j9 rfl hF.len) ?_;refine PS ?_;refine nx J3 (aq ?_)
 refine bp (α:=(Nat)) (λk=>k≤l.length∧∀(j:Nat),j<k→l.getD j 0≠v) (λk=>[(0,x),(1,(.int .i64 (v))),(7,(.int .i64 (((l.length:Nat):Int)))),(8,(.int .i64 (((k:Nat):Int))))]) (λk=>[]) (λk=>l.length-k) 0
     ⟨aO _,λj h=>absurd h (by omega)⟩ SB
     (λ_ s=>s) (λk hinv=>?_)
 obtain⟨hk,hv⟩:=hinv;refine sr λ_ J4=>PS ?_
 refine an ?_ ?_<;>intro h9;obtain⟨b_a,off_a,cap_a,cs_a,T_a,z_a,hv_a,hb_a,hcs_a,hcp_a⟩:=IsI.at hF (j:=k) (by omega);refine nx J4 (ab λ_ J5=>CY (qx J5 (ab λ_ J6=>aq (sr λ_ J7=>P2 ?_))));refine nx J7 (sr λ_ J8=>P3 ?_);refine tp (bT (r:=off_a+k) hv_a rfl j9 aQ rfl rfl (by omega) (by omega) (by omega)) ?_;refine tp (c7 (v:=(.int .i64 ((l.getD k 0)))) rfl Y3 rfl rfl (Cq hb_a (λ_ h=>ez h)) hcs_a) ?_;refine PS ?_;refine an ?_ ?_<;>intro h16;refine nx J8 (CY (sr λ_ J9=>P2 ?_));refine nx J9 (ai (aH (ae (ae (aH (ae (WK [] (au rfl rfl ?_))))))));exact⟨((k:Nat):Int),rfl,by rw[decide_eq_true_iff];exact⟨λ_=>by rw[h16,List.getD_eq_getElem?_getD,List.getElem?_eq_getElem (by omega)];exact dW _,λ_=>by omega⟩,rfl⟩;refine nx J8 (CN (aR (af (ac J6 (ad (AD ?_))))));refine PS ?_;refine ap ?_
 exact aI ((k+1):(Nat)) ⟨by omega,λj hj=>by
        by_cases q:j=k
        · subst q;exact λe=>h16 e.symm
        · exact hv j (by omega)⟩ (by show l.length- (k+1)<l.length-k;omega)
   SB
   (λ_ s=>s)
 refine nx J4 (ab λ_ J10=>CN (aW (az (az (bm (ac J2 (sr λ_ J11=>PS ?_)))))));refine nx J11 (ai (WK [] (au rfl rfl ?_)))
 exact⟨-1,rfl,by
      rw[decide_eq_true_iff];constructor
      · intro h;omega
      · intro h
        obtain⟨j,hj,e⟩:=ff h;have:=hv j (by omega);rw[List.getD_eq_getElem?_getD,List.getElem?_eq_getElem hj]at this
        exact absurd e this,rfl⟩
theorem qt(x:Value)(l:List Int)(v:Int)(hl:l.length≤1000000):
 DT 168 #[x,(.int .i64 (v))] (IsI .i64 x l) [] (RI (.bool (decide (v∈l))) []):=by
 refine BD 9 Tryz.func168 rfl rfl rfl λw0 F hF=>sr λ_ J1=>PS ?_
 refine nx J1 (sr λ_ J2=>P2 ?_);refine CQ Mj (Dt x l v hl) ID (λ_ d _=>IsI.more hF d) λvR HR hR=>?_
 obtain⟨n,rfl,hn,rfl⟩:=hR;refine P2 ?_;refine nx J2 (ai (WK [] (au rfl rfl ?_)));exact⟨congrArg Value.bool (by rw[yO,hn,decide_eq_true_iff]),rfl⟩
end Go.Proofs.YtjblgopghhgflaaGreat
end

section
namespace Api
open Go Leg Codec
theorem wC: ∀(a b:List CellT),a.length=b.length→bF a=bF b→a=b
 | [],[],_,_=>rfl
 | [],_::_,h,_=>by cases h
 |_::_,[],h,_=>by cases h
 |x::a,y::b,h,e=>by
  simp only[bF,cp]at e;obtain⟨h1,h2⟩:=List.append_inj e (by simp[CellT.flat]);rw[Gn h1,wC a b (by simpa using h) h2]
theorem Gm{v w:Vector CellT 4}(h:bF v.toList=bF w.toList):v=w:=Vector.toList_inj.1 (wC _ _ (by simp) h)
theorem uY{n:Int}(h:(Lit.int .i64 n).wf=true): -9223372036854775808≤n∧n<9223372036854775808:=by
 have m1:IntKind.i64.min= -9223372036854775808:=by decide
 have m2:IntKind.i64.max=9223372036854775807:=by decide
 simp only[Lit.wf,m1,m2,av,decide_eq_true_eq]at h;omega
theorem Cg: ∀(l:List Int) (s:Int),(rh l s).2=0→∀n∈l,Ev n=true
 | [],_,_,n,hn=>by cases hn
 |a::l,s,h,n,hn=>by
  rw[rh]at h
  by_cases h1:Ev a=true
  · rw[if_pos h1]at h
    by_cases h2:a>1099511627776-s
    · rw[if_pos h2]at h;cases h
    · rw[if_neg h2]at h
      rcases cf.1 hn with rfl|hn
      · exact h1
      · exact Cg l _ h n hn
  · rw[if_neg h1]at h;cases h
theorem tm{n:Int}(h:Ev n=true):qw n:=by
 have:0≤n∧n≤1099511627776:=of_decide_eq_true h;exact⟨this.1,by omega⟩
theorem TameC.of{c:CellT}(h:JO c=true):TameC c:=by
 unfold JO at h;rw[av,av,decide_eq_true_iff]at h;refine⟨tm h.1.1,tm h.1.2,λj hj=>tm (Cg _ _ h.2 _ ?_)⟩;rw[←Vector.getElem_toList (h:=by simpa using hj)];exact dW _
theorem yk{v:Vector CellT 4}(h:zx v=true)(k:Nat)(hk:k<4):TameC v[k]:=TameC.of (of_decide_eq_true h k hk)
theorem TameR.of{x:RowT}(hw:WF x.flat)(h:fL x=true):TameR x:=by
 unfold fL at h;rw[av,av,decide_eq_true_iff,decide_eq_true_iff]at h;obtain⟨⟨h1,h2⟩,h3⟩:=h
 have hh: ∀(j:Nat) (hj:j<5),(0:Int)≤x.heir[j]∧zx x.left[j]=true∧(x.heir[j]=(0:Int)→bF x.left[j].toList=bF RowT.zero.left[0].toList):=λj hj=>by
  have:=h3 j hj;unfold BC at this;rw[av,av,decide_eq_true_iff,decide_eq_true_iff]at this;exact⟨this.1.1,this.1.2,this.2⟩
 refine⟨⟨h1,(uY (hw _ (by simp[RowT.flat]))).2⟩,λk hk=>yk h2 k hk,λj hj=>⟨(hh j hj).1,(uY (hw _ ?_)).2⟩,λj k hj hk=>yk (hh j hj).2.1 k hk,λj hj e=>Gm ((hh j hj).2.2 e)⟩;have:x.heir[j]∈x.heir.toList:=by rw[←Vector.getElem_toList (h:=by simpa using hj)];exact dW _
 simp[RowT.flat,this]
theorem rB{n:Int}{l:List Int}(h:0≤n∧n<9223372036854775808)(hl:WF l):WF (n::l):=λm hm=>by
 rcases cf.1 hm with rfl|hm
 · exact rA h
 · exact hl m hm
theorem lQ{a b:List Int}(ha:WF a)(hb:WF b):WF (a++b):=λm hm=>by
 rcases eC.1 hm with hm|hm
 · exact ha m hm
 · exact hb m hm
theorem GN:WF []:=λ_ h=>by cases h
theorem OkB.wf{b:BallotT}(h:OkB b):WF b.flat:=rB h.1 (rB ⟨h.2.1,by have:=h.2.2;omega⟩ GN)
theorem OkC.wf{c:ChangeT}(h:OkC c):WF c.flat:=rB ⟨h.1.1,by have:=h.1.2;omega⟩ (rB ⟨h.2.1.1,by have:=h.2.1.2;omega⟩ (rB ⟨h.2.2.1,by have:=h.2.2.2;omega⟩ GN))
theorem Nt:Nm 0:=⟨by decide,by decide⟩
theorem sD(m:MsgT):(dX m).length≤3000:=by
 have h1:=ia m.row;have h2:=aT m.ballot.flat;have h3:=aT m.had.flat;have h4:=aT m.change.flat;have h5:=aT m.view.flat;have h6:=aT [m.kind,m.whose];have h7:=aT [m.kind,m.version];have h8:=aT [m.kind,m.epoch];have h9:=aT [m.kind];simp only[BallotT.flat,ChangeT.flat,ViewT.flat,ay,aD,aA]at h2 h3 h4 h5 h6 h7 h8 h9;unfold dX;split
 · simp only[aj];omega
 split
 · omega
 split
 · simp only[aj,BallotT.flat];omega
 split
 · simp only[aj,BallotT.flat,ChangeT.flat];omega
 split
 · simp only[aj,BallotT.flat,ChangeT.flat];omega
 split
 · simp only[aj,ViewT.flat];omega
 split
 · simp only[aj,ViewT.flat];omega
 · simp
theorem Gu{m:RecT}(h:OkRc m):gj (vY m)=gj m:=by
 have hk:=h.kind;unfold vY;split
 · rename_i c;simp only[gj,if_pos c]
 split
 · rename_i c0 c;simp only[gj,if_neg c0,if_pos c]
 split
 · rename_i c0 c1 c;simp only[gj,if_neg c0,if_neg c1,if_pos c]
 split
 · rename_i c0 c1 c2 c;simp only[gj,if_neg c0,if_neg c1,if_neg c2,if_pos c]
 split
 · rename_i c0 c1 c2 c3 c;simp only[gj,if_neg c0,if_neg c1,if_neg c2,if_neg c3,if_pos c]
 · rename_i c0 c1 c2 c3 c4;simp only[gj,if_neg c0,if_neg c1,if_neg c2,if_neg c3,if_neg c4]
theorem H3{m:RecT}(h:OkRc m)(ho:vX m=true):mn (gj (vY m))=(vY m,0):=by
 have:=I1 h [];rw[ho,ba]at this;unfold mn;rw[Gu h,this]
theorem A9:fL RowT.zero=true:=by decide+kernel
theorem I0{m:RecT}{bs r:List UInt8}(h:cZ bs=some ((m,true),r)):fL m.row=true:=by
 obtain⟨k,r1,_,h⟩:=bG h;split at h
 · obtain⟨_,_,_,h⟩:=bG h
   obtain⟨e,_⟩:=hJ h;injection e with e1 e2;subst e1;exact e2
 split at h
 · obtain⟨_,_,_,h⟩:=bG h
   obtain⟨_,_,_,h⟩:=bG h;obtain⟨e,_⟩:=hJ h;injection e with e1 e2;subst e1;exact e2
 have fin: ∀{m':RecT} {g:Bool} {b r:List UInt8},pr (m',g) b=some ((m,true),r)→m'.row= .zero→fL m.row=true:=λh e=>by
  obtain⟨e',_⟩:=hJ h;injection e' with e1 e2;subst e1;rw[e];exact A9
 split at h
 · obtain⟨_,_,_,h⟩:=bG h;exact fin h rfl
 split at h
 · obtain⟨_,_,_,h⟩:=bG h;obtain⟨_,_,_,h⟩:=bG h;exact fin h rfl
 split at h
 · obtain⟨_,_,_,h⟩:=bG h;obtain⟨_,_,_,h⟩:=bG h;obtain⟨_,_,_,h⟩:=bG h;exact fin h rfl
 split at h
 · obtain⟨_,_,_,h⟩:=bG h;exact fin h rfl
 · exact fin h rfl
theorem H4(bs:List UInt8):(∃m,mn bs=(m,0)∧bs=gj m∧fL m.row=true∧WF m.row.flat)∨mn bs=(.zero,1):=by
 unfold mn;split
 · rename_i m h
   obtain⟨h1,_,_,_,h5⟩:=Ha h;rw[ba]at h1;exact .inl ⟨m,rfl,h1,I0 h,h5.wf⟩
 · exact .inr rfl
open Dsk Wal
structure RcOk(m:RecT):Prop where
 dec:mn (gj m)=(m,0)
 wf:WF m.row.flat
 kind:m.kind≠3∧m.kind≠4
theorem RcOk.of{m:RecT}(h:OkRc m)(hn:vY m=m)(ho:vX m=true)(hw:WF m.row.flat)(hk:m.kind≠3∧m.kind≠4):RcOk m:=⟨by have:=H3 h ho;rwa [hn]at this,hw,hk⟩
theorem Oc:Nm 0:=⟨by decide,by decide⟩
theorem NK:OkB BallotT.zero:=⟨Oc,by decide,by decide⟩
theorem NJ:OkC ChangeT.zero:=⟨⟨by decide,by decide⟩,⟨by decide,by decide⟩,⟨by decide,by decide⟩⟩
theorem NI:Nv ViewT.zero:=by
 have: ∀i:Fin 5,0≤ViewT.zero.heirs[i.val]∧ViewT.zero.heirs[i.val]<6:=by decide+kernel
 exact⟨Oc,⟨by decide,by decide⟩,λi hi=>this ⟨i,hi⟩⟩
theorem RcOk.row{y:RowT}(ht:TameR y)(hr:fL y=true):RcOk (fF y):=
 .of ⟨⟨Int.le_refl 0,show(0:Int)<6 by decide⟩,⟨Int.le_refl 0,show(0:Int)<5 by decide⟩,ht,Oc,NK,NJ,NI⟩ rfl hr ht.wf ⟨show(0:Int)≠3 by decide,show(0:Int)≠4 by decide⟩
end Api
end

section
namespace Go.Proofs.YtjblgopghhgflaaGreat
open Go Leg Codec Api
theorem vL(ob:Nat)(ok:Bool):DoesD Tryz.prog 120 #[(.pointer (some ⟨ob,0,none⟩))] (.returning) (λ_=>True) [ah ob [(.bool (ok))] 4] (λe u' H=>e= .returned (.tuple #[])∧settle u'= .returning∧H=[ah ob [.bool ok] 4]):=by
 refine DoesD.recover2 (vs:=[(.pointer (some ⟨ob,0,none⟩))]) (n:=15) (u':= .returning) (rv:= .nilIface) Tryz.func120 rfl rfl rfl rfl rfl rfl rfl rfl rfl rfl rfl (λc0 cs hu=>by cases c0;simp only at hu;subst hu;rfl) (λw0 F c0 cs hF=>?_);refine ab (λK1 hK1=>?_);refine ab (λK2 hK2=>?_);refine ad ?_;refine dq (aa rfl) rfl rfl (ck rfl rfl) ?_;refine dq (aa rfl) rfl rfl (PV.nilNil rfl Tryz.underlying20 rfl) ?_;refine ap ?_;refine ac hK2 ?_;clear hK2;refine iO rfl ?_;refine ai ?_;refine ae ?_;clear hK1;refine aF (di _) (λ_ s=>ak [0] rfl s) ?_;refine TE.retS0 rfl ?_;refine⟨rfl,rfl,?_⟩;rfl
theorem zo(ob:Nat)(ok:Bool):DoesD Tryz.prog 120 #[(.pointer (some ⟨ob,0,none⟩))] (.panicking hZ) (λ_=>True) [ah ob [(.bool (ok))] 4] (λe u' H=>e= .returned (.tuple #[])∧settle u'= .returning∧H=[ah ob [.bool false] 4]):=by
 refine DoesD.recover2 (vs:=[(.pointer (some ⟨ob,0,none⟩))]) (n:=15) (u':= .panicking [{v:=(.iface 199 (.agg #[])),recovered:=true}]) (rv:=(.iface 199 (.agg #[]))) Tryz.func120 rfl rfl rfl rfl rfl rfl rfl rfl rfl rfl rfl (λc0 cs hu=>by cases c0;simp only at hu;subst hu;rfl) (λw0 F c0 cs hF=>?_);refine ab (λK1 hK1=>?_);refine ab (λK2 hK2=>?_);refine ad ?_;refine dq (aa rfl) rfl rfl (ck rfl rfl) ?_;refine dq (aa rfl) rfl rfl (PV.ifaceNil rfl Tryz.underlying20 rfl) ?_;refine ap ?_;refine ac hK2 ?_;clear hK2;refine sO rfl ?_;refine aR ?_;refine ac hK1 ?_;clear hK1;refine ab (λK3 hK3=>?_);refine ab (λK4 hK4=>?_);refine ad ?_;refine dq (aa rfl) rfl rfl (ck rfl rfl) ?_;refine dq (aa rfl) rfl rfl (PV.assert rfl GF rfl rfl) ?_;refine dq (aa rfl) rfl rfl (ck rfl rfl) ?_;refine dq (aa rfl) rfl rfl (lK (vs:=[.agg #[], .bool true]) rfl rfl rfl) ?_;refine dq (aa rfl) rfl rfl (lK (vs:=[.agg #[], .bool true]) rfl rfl rfl) ?_;refine lG (aa rfl) rfl rfl rfl Nw (λb2=>?_);change TL _ _ _ _ _ _ _ _ _ [ah b2 [] 199,ah ob [(.bool (ok))] 4];refine bJ (vs:=[]) (i:=0) (H':=[ah b2 [] 199,ah ob [(.bool (ok))] 4]) (aa rfl) rfl rfl rfl rfl rfl LJ (by simp[Value.oneCell']) rfl rfl (Jf rfl) rfl rfl ?_;refine dq (aa rfl) rfl rfl (o7 rfl rfl) ?_;refine ap ?_;refine ac hK4 ?_;clear hK4;refine ab (λK5 hK5=>?_);refine ad ?_;refine dq (aa rfl) rfl rfl (ck rfl rfl) ?_;refine dq (aa rfl) rfl rfl (n9 (r:=false) rfl rfl rfl) ?_;refine ap ?_
 refine ac hK5 ?_;clear hK5;refine sO rfl ?_;refine aR ?_;refine ac hK3 ?_;clear hK3;refine ad ?_;refine bD (i:=1) (H':=[ah b2 [] 199,ah ob [(.bool false)] 4]) (aa rfl) rfl rfl rfl rfl rfl kM rfl rfl (lb rfl) rfl rfl ?_;refine ap ?_;refine aF (di _) (λ_ s=>ak [1] rfl s) ?_;refine TE.endS0 rfl ?_;refine⟨rfl,rfl,?_⟩;exact rfl
theorem FI{fid:Nat}{caps:List Value}{x:Value}{bs:List UInt8}{C G:HP}{A:List UInt8→HP}{R:Hl→Prop}(hR: ∀F,R F→IsB x bs F)(hmono: ∀F g,R F→Dj g F→R (jn g F))(hN:Named Tryz.prog fid)
 (hc: ∀rb,DT fid ([Value.pointer (some ⟨rb,0,none⟩)]++caps).toArray R [ah rb [x] 197,C] (uI (λ_ H=>∃x' r,H=[ah rb [x'] 197,A r]∧Tail x bs x' r) (λc H=>c=hZ∧∃x',H=[ah rb [x'] 197,G]))):
 DT 81 #[x, .func (.func fid) #[] caps.toArray] R [C] (dm (λv H=>(∃r,v= .bool (decide (r=[]))∧H=[A r])∨(v= .bool false∧H=[G]))):=by
 refine Leg.Does.bodyD (vs:=[x, .func (.func fid) #[] caps.toArray]) (n:=21) Tryz.func81 rfl rfl rfl (λw0 F hF=>sr λ_ J1=>XA z4 λb4=>?_);refine nx J1 (sr λ_ J2=>PS ?_);refine tp (PV.buildOne rfl Ah Nx rfl nr rfl (hR _ hF).one) ?_;refine XB λb8=>?_
 refine PS ?_;refine nx J2 (sr λ_ J3=>tp (OA rfl rfl) ?_);refine TL.deferFn (aa rfl) rfl rfl rfl (nx J3 (ab λ_ J4=>sr λ_ J5=>PS ?_));refine tp (PV.funcNeqNil rfl Tryz.underlying141 rfl) ?_;refine nx J5 (CY (ad (P2 ?_)));refine TL.callPv (aa rfl) rfl rfl rfl rfl hN rfl (hc b8) (λ_ s=>aC [0,1] rfl s) (Ln hmono hF) (λcP HP hP=>?_) (λvR HR hR'=>?_);obtain⟨rfl,x',rfl⟩:=hP;refine ax ?_;intro a w fr sm m;refine qT (b:=b4) (e:=4) (A:=[ah b4 [(.bool false)] 4]) (B:=[ah b8 [x'] 197,G]) (H':=[G]) fr sm m (by simp) HB (zo b4 _) (λ_ s=>aC [2] rfl s) (λ_ _ _=>trivial) rfl rfl Y4 rfl (λH1 h1=>?_);subst h1;refine⟨[.bool false], .bool false,dN 0 rfl rfl,rfl,λ_ s=>ak [2] rfl s,?_⟩;exact .inr ⟨rfl,rfl⟩;obtain⟨x',r,rfl,htl⟩:=hR';have hB:=htl F (hR _ hF);rcases hB with⟨rfl,rfl⟩| ⟨b,off,cap,cs,T,z,rfl,hB1,hB2,hB3,hB4⟩
 refine nx J4 (sr λ_ J6=>P2 ?_);refine FA 0 Ah nr ?_;refine LA 0 gp ?_;refine tp (sP rfl gp rfl) ?_;refine PS ?_;refine S0 2 kM ?_;refine nx J6 (ai ?_);intro a w fr sm m;refine qT (b:=b4) (e:=4) (A:=[ah b4 [(.bool true)] 4]) (B:=[ah b8 [(.slice none 0 0)] 197,(A [])]) (H':=[(A [])]) fr sm m (by simp) HB (vL b4 _) (λ_ s=>aC [2] rfl s) (λ_ _ _=>trivial) rfl rfl Y4 rfl (λH1 h1=>?_);subst h1;refine⟨[.bool true], .bool true,dN 0 rfl rfl,rfl,λ_ s=>ak [2] rfl s,?_⟩;exact .inl ⟨[],rfl,rfl⟩;refine nx J4 (sr λ_ J7=>P2 ?_);refine FA 0 Ah nr ?_;refine LA 0 gp ?_;refine tp (sP rfl gp rfl) ?_;refine PS ?_;refine S0 2 kM ?_;refine nx J7 (ai ?_);intro a w fr sm m;refine qT (b:=b4) (e:=4) (A:=[ah b4 [(.bool (decide (((r.length:Nat):Int)=0)))] 4]) (B:=[ah b8 [(.slice (some ⟨b,off,none⟩) (r.length) (cap))] 197,(A r)]) (H':=[(A r)]) fr sm m (by simp) HB (vL b4 _) (λ_ s=>aC [2] rfl s) (λ_ _ _=>trivial) rfl rfl Y4 rfl (λH1 h1=>?_);subst h1;refine⟨[.bool (decide (((r.length:Nat):Int)=0))], .bool (decide (((r.length:Nat):Int)=0)),dN 0 rfl rfl,rfl,λ_ s=>ak [2] rfl s,?_⟩;exact .inl ⟨r,by congr 1;rw[decide_eq_decide];cases r<;>simp<;>omega,rfl⟩
theorem ye{fid:Nat}{caps:List Value}{x:Value}{bs:List UInt8}{α β:Type}{C:List HP}{A:α→List HP}{G:β→List HP}{φ:α→List UInt8→Prop}{ψ:β→Prop}{R:Hl→Prop}(hR: ∀F,R F→IsB x bs F)(hmono: ∀F g,R F→Dj g F→R (jn g F))(hN:Named Tryz.prog fid)
 (hc: ∀rb,DT fid ([Value.pointer (some ⟨rb,0,none⟩)]++caps).toArray R (ah rb [x] 197::C) (uI (λ_ H=>∃x' r a,H=ah rb [x'] 197::A a∧Tail x bs x' r∧φ a r) (λc H=>c=hZ∧∃x' b,H=ah rb [x'] 197::G b∧ψ b))):
 DT 81 #[x, .func (.func fid) #[] caps.toArray] R C (dm (λv H=>(∃r a,v= .bool (decide (r=[]))∧H=A a∧φ a r)∨(∃b,v= .bool false∧H=G b∧ψ b))):=by
 have h1:=FI (C:=all C) (G:=λh=>∃b,ψ b∧bE (G b) h) (A:=λr h=>∃a,φ a r∧bE (A a) h) hR hmono hN λrb=>
  (hc rb).conv (post':=uI (λ_ H=>∃x' r,H=[ah rb [x'] 197,λh=>∃a,φ a r∧bE (A a) h]∧Tail x bs x' r) (λc H=>c=hZ∧∃x',H=[ah rb [x'] 197,λh=>∃b,ψ b∧bE (G b) h]))
   (λh s=>vv s λ_=>Jx)
   (λe H F w hp m=>by
    cases e with
    |returned v=>
     obtain⟨x',r,a,rfl,ht,hf⟩:=hp;exact⟨[ah rb [x'] 197,λh=>∃a,φ a r∧bE (A a) h],m.mono λh s=>vv s λh s=>qK ⟨a,hf,s⟩,x',r,rfl,ht⟩
    |panicked c=>
     obtain⟨hc,x',b,rfl,hf⟩:=hp;exact⟨[ah rb [x'] 197,λh=>∃b,ψ b∧bE (G b) h],m.mono λh s=>vv s λh s=>qK ⟨b,hf,s⟩,hc,x',rfl⟩
    |outgrown=>exact hp.elim)
 refine h1.conv (λh s=>IU s) λe H F w hp m=>?_
 cases e with
 |returned v=>
  rcases hp with⟨r,hv,rfl⟩| ⟨hv,rfl⟩
  · obtain⟨h,d,e,g1,g2,d',rfl,⟨a,hf,s⟩,_⟩:=m
    exact⟨A a,⟨_,d,e,ll _ s d'⟩, .inl ⟨r,a,hv,rfl,hf⟩⟩
  · obtain⟨h,d,e,g1,g2,d',rfl,⟨b,hf,s⟩,_⟩:=m
    exact⟨G b,⟨_,d,e,ll _ s d'⟩, .inr ⟨b,hv,rfl,hf⟩⟩
 |panicked c=>exact hp.elim
 |outgrown=>exact hp.elim
end Go.Proofs.YtjblgopghhgflaaGreat
end
