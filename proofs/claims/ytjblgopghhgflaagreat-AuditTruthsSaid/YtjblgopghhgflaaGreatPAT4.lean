/-
  Joined texts:what a statement's proof reaches.
-/
import Derived.Test.YtjblgopghhgflaaGreatPAT3
set_option maxHeartbeats 8000000
set_option maxRecDepth 100000
set_option linter.unusedSimpArgs false
set_option linter.unusedVariables false
section
namespace Wal
open Go Leg Codec Api Dsk
theorem u0{x y:Int}(k:Nat)(hx:0≤x)(hx2:x<2^k)(hy:0≤y)(h:x+y*2^k<4294967296):js .u32 x (y*2^k)=x+y*2^k:=by
 obtain⟨a,rfl⟩:=Int.eq_ofNat_of_zero_le hx;obtain⟨b,rfl⟩:=Int.eq_ofNat_of_zero_le hy;have e2:((b:Nat):Int)*2^k=((b*2^k:Nat):Int):=by simp
 rw[e2]at h ⊢
 have ha:a<2^k:=by
  have:(((2:Nat)^k:Nat):Int)=(2:Int)^k:=by simp
  omega
 have hs:a+b*2^k<4294967296:=by omega
 have h1:(BitVec.ofInt 32 (a:Int)).toNat=a:=by rw[BitVec.toNat_ofInt];omega
 have h2:(BitVec.ofInt 32 ((b*2^k:Nat):Int)).toNat=b*2^k:=by
  rw[BitVec.toNat_ofInt];generalize b*2^k=q at*;omega
 have h3:a|||b*2^k=a+b*2^k:=by
  rw[Nat.or_comm,←Nat.shiftLeft_eq,←Nat.shiftLeft_add_eq_or_of_lt ha,mV]
 show IntKind.u32.wrap (((BitVec.ofInt 32 (a:Int))||| (BitVec.ofInt 32 ((b*2^k:Nat):Int))).toNat:Nat)=_;rw[BitVec.toNat_or,h1,h2,h3];generalize b*2^k=q at*;rw[ll (by omega) (by omega)];omega
theorem Ib{x y:Int}(k:Nat)(hx:0≤x)(hx2:x<2^k)(hy:0≤y)(h:x+y*2^k<9223372036854775808):js .i64 (y*2^k) x=x+y*2^k:=by
 obtain⟨a,rfl⟩:=Int.eq_ofNat_of_zero_le hx;obtain⟨b,rfl⟩:=Int.eq_ofNat_of_zero_le hy;have e2:((b:Nat):Int)*2^k=((b*2^k:Nat):Int):=by simp
 rw[e2]at h ⊢
 have ha:a<2^k:=by
  have:(((2:Nat)^k:Nat):Int)=(2:Int)^k:=by simp
  omega
 have h1:(BitVec.ofInt 64 (a:Int)).toNat=a:=by rw[BitVec.toNat_ofInt];omega
 have h2:(BitVec.ofInt 64 ((b*2^k:Nat):Int)).toNat=b*2^k:=by
  rw[BitVec.toNat_ofInt];generalize b*2^k=q at*;omega
 have h3:b*2^k|||a=a+b*2^k:=by
  rw[←Nat.shiftLeft_eq,←Nat.shiftLeft_add_eq_or_of_lt ha,mV]
 show IntKind.i64.wrap (((BitVec.ofInt 64 ((b*2^k:Nat):Int))||| (BitVec.ofInt 64 (a:Int))).toNat:Nat)=_;rw[BitVec.toNat_or,h1,h2,h3];generalize b*2^k=q at*;rw[bX (by omega) (by omega)];omega
theorem Ho(x:Int):0≤IntKind.u32.wrap x∧IntKind.u32.wrap x<4294967296:=by
 simp only[IntKind.wrap,IntKind.signed,IntKind.bits];simp;omega
theorem Ci(a b:Int):0≤qv .u32 a b∧qv .u32 a b<4294967296:=Ho _
def r8(x:Int):UInt8:=UInt8.ofNat (x%256).toNat
theorem kq(x:Int):(((r8 x).toNat:Nat):Int)=x%256:=by
 have:(x%256).toNat<256:=by omega
 simp only[r8,UInt8.toNat_ofNat'];omega
theorem r8_wrap(x:Int):IntKind.u8.wrap x=(((r8 x).toNat:Nat):Int):=by
 rw[kq];simp only[IntKind.wrap,IntKind.signed,IntKind.bits];simp
def F5(r:Int):Int:=if uq .u32 r 1=1 then qv .u32 (r.fdiv 2) 3988292384 else r.fdiv 2
def ny(r:Int):Nat→Int
 |0=>r
 |k+1=>F5 (ny r k)
def G7(r:Int)(c:UInt8):Int:=ny (qv .u32 r ((c.toNat:Nat):Int)) 8
def fR(r:Int)(bs:List UInt8):Int:=bs.foldl G7 r
def gB(bs:List UInt8):Int:=qv .u32 4294967295 (fR 4294967295 bs)
theorem Eb{r:Int}{bs:List UInt8}{k:Nat}(h:k<bs.length):fR r (bs.take (k+1))=G7 (fR r (bs.take k)) (bs.getD k 0):=by
 rw[fR,fR,cB h,fj,List.getD_eq_getElem?_getD,List.getElem?_eq_getElem h];rfl
theorem zh(r:Int)(a b:List UInt8):fR r (a++b)=fR (fR r a) b:=by simp[fR]
theorem Ec{r:Int}{ps:List (List UInt8)}{k:Nat}(h:k<ps.length):fR r (ps.take (k+1)).flatten=fR (fR r (ps.take k).flatten) ps[k]:=by
 rw[cB h,List.flatten_append,zh];simp
theorem Ed(bs:List UInt8):0≤gB bs∧gB bs<4294967296:=Ci _ _
def Q1(r:Int):List UInt8:=[r8 r,r8 (r.fdiv 256),r8 (r.fdiv 65536),r8 (r.fdiv 16777216)]
def Kp(a b c d:UInt8):Int:=
 js .u32 (js .u32 (js .u32 ((a.toNat:Nat):Int) (IntKind.u32.wrap (((b.toNat:Nat):Int)*2^8))) (IntKind.u32.wrap (((c.toNat:Nat):Int)*2^16))) (IntKind.u32.wrap (((d.toNat:Nat):Int)*2^24))
theorem L7(a b c d:UInt8):Kp a b c d=((a.toNat:Nat):Int)+((b.toNat:Nat):Int)*256+((c.toNat:Nat):Int)*65536+((d.toNat:Nat):Int)*16777216:=by
 have ha:=a.toNat_lt;have hb:=b.toNat_lt;have hc:=c.toNat_lt;have hd:=d.toNat_lt;unfold Kp;generalize a.toNat=a at*;generalize b.toNat=b at*;generalize c.toNat=c at*;generalize d.toNat=d at*;rw[ll (x:=(b:Int)*2^8) (by omega) (by omega),ll (x:=(c:Int)*2^16) (by omega) (by omega),ll (x:=(d:Int)*2^24) (by omega) (by omega)];rw[u0 8 (by omega) (by omega) (by omega) (by omega),u0 16 (by omega) (by omega) (by omega) (by omega),u0 24 (by omega) (by omega) (by omega) (by omega)];omega
def qg(bs:List UInt8):List UInt8:=bs++Q1 (gB bs)
def mX(bs:List UInt8):Option (List UInt8):=
 if bs.length<4 then none
 else if gB (bs.take (bs.length-4))=Kp ((bs.drop (bs.length-4)).getD 0 0) ((bs.drop (bs.length-4)).getD 1 0) ((bs.drop (bs.length-4)).getD 2 0) ((bs.drop (bs.length-4)).getD 3 0)then some (bs.take (bs.length-4))else none
theorem lB(bs:List UInt8):(qg bs).length=bs.length+4:=by simp[qg,Q1]
theorem Ko{r:Int}(h:0≤r∧r<4294967296):Kp (r8 r) (r8 (r.fdiv 256)) (r8 (r.fdiv 65536)) (r8 (r.fdiv 16777216))=r:=by
 rw[L7,kq,kq,kq,kq,Int.fdiv_eq_ediv_of_nonneg _ (by decide),Int.fdiv_eq_ediv_of_nonneg _ (by decide),Int.fdiv_eq_ediv_of_nonneg _ (by decide)];omega
theorem rY(bs:List UInt8):mX (qg bs)=some bs:=by
 have hl:=lB bs;have e1:(qg bs).take (bs.length+4-4)=bs:=by rw[I4,qg];exact uz
 have e2:(qg bs).drop (bs.length+4-4)=Q1 (gB bs):=by rw[I4,qg];exact Ey
 unfold mX;rw[hl,if_neg (by omega),e1,e2];exact if_pos (Ko (Ed bs)).symm
theorem zM{bs t:List UInt8}(h:mX bs=some t):t.length+4=bs.length:=by
 unfold mX at h;split at h
 · cases h
 · split at h
   · injection h with h;subst h;rw[bq];omega
   · cases h
def be(n:Nat):Nat:=if n=0 then 1 else(n-1) / 52+1
theorem mu(n:Nat):0<be n:=by unfold be;split<;>omega
theorem pP{n:Nat}(h:n≤3000):be n≤58:=by unfold be;split<;>omega
theorem y8(n:Nat):n≤be n*52:=by unfold be;split<;>omega
def KO(n:Int):List UInt8:=[r8 (n.fdiv 16777216),r8 (n.fdiv 65536),r8 (n.fdiv 256),r8 n]
def Em(bs:List UInt8):Int:=bs.foldl (λh c=>js .i64 (IntKind.i64.wrap (h*2^8)) ((c.toNat:Nat):Int)) 0
theorem KN{bs:List UInt8}{k:Nat}(h:k<bs.length):Em (bs.take (k+1))=js .i64 (IntKind.i64.wrap (Em (bs.take k)*2^8)) (((bs.getD k 0).toNat:Nat):Int):=by
 rw[Em,Em,cB h,fj,List.getD_eq_getElem?_getD,List.getElem?_eq_getElem h];rfl
theorem wQ{h:Int}(c:UInt8)(h0:0≤h)(h1:h<4294967296):js .i64 (IntKind.i64.wrap (h*2^8)) ((c.toNat:Nat):Int)=h*256+((c.toNat:Nat):Int):=by
 have hc:=c.toNat_lt;generalize c.toNat=c at*;rw[bX (by omega) (by omega),Ib 8 (by omega) (by omega) (by omega) (by omega)];omega
theorem yI(a b c d:UInt8):Em [a,b,c,d]=((a.toNat:Nat):Int)*16777216+((b.toNat:Nat):Int)*65536+((c.toNat:Nat):Int)*256+((d.toNat:Nat):Int):=by
 have ha:=a.toNat_lt;have hb:=b.toNat_lt;have hc:=c.toNat_lt;have hd:=d.toNat_lt;simp only[Em,List.foldl_cons,List.foldl_nil];rw[wQ a (by omega) (by omega),wQ b (by omega) (by omega),wQ c (by omega) (by omega),wQ d (by omega) (by omega)];omega
theorem Mq{n:Int}(h0:0≤n)(h1:n<4294967296):Em (KO n)=n:=by
 rw[KO,yI,kq,kq,kq,kq,Int.fdiv_eq_ediv_of_nonneg _ (by decide),Int.fdiv_eq_ediv_of_nonneg _ (by decide),Int.fdiv_eq_ediv_of_nonneg _ (by decide)];omega
def gW(b:List UInt8)(i:Nat):List UInt8:=(b.drop (i*52)).take 52
theorem rm(b:List UInt8)(i:Nat):(gW b i).length≤52:=by rw[gW,bq];omega
theorem LN{n k:Nat}(h:k<be n):k*52≤n:=by unfold be at h;split at h<;>omega
theorem LO(b:List UInt8)(k:Nat):((b.take (min ((k+1)*52) b.length)).drop (k*52))=gW b k:=by
 rw[gW,pB,fO,Nat.one_mul]
 by_cases q:k*52+52≤b.length
 · rw[Nat.min_eq_left q,cu]
 · rw[Nat.min_eq_right (by omega),aB (by rw[eu];omega),aB (by rw[eu];omega)]
theorem H7(b:List UInt8): ∀k,b.length≤k*52→((List.range k).map (gW b)).flatten=b:=by
 have key: ∀k,((List.range k).map (gW b)).flatten=b.take (k*52):=by
  intro k
  induction k with
  |zero=>simp
  |succ k ih=>
   rw[dd,de,List.flatten_append,ih,fO,Nat.one_mul,List.take_add];simp[gW]
 intro k hk;rw[key,aB hk]
def jJ(number:Int)(place all:Nat)(p:List UInt8):List UInt8:=KO number++([r8 (place:Int),r8 (all:Int),r8 (p.length:Int)]++(p++List.replicate (52-p.length) 0))
theorem j8{number:Int}{place all:Nat}{p:List UInt8}(h:p.length≤52):(jJ number place all p).length=59:=by simp[jJ,KO];omega
def m3(number:Int)(place all:Nat)(p:List UInt8):ix:=qg (jJ number place all p)++[1]
theorem HD{number:Int}{place all:Nat}{p:List UInt8}(h:p.length≤52):(m3 number place all p).length=64:=by simp[m3,lB,j8 h]
def bl(number:Int)(b:List UInt8):List ix:=(List.range (be b.length)).map λi=>m3 number i (be b.length) (gW b i)
def nP(number:Int)(b:List UInt8)(k:Nat):List ix:=(List.range k).map λi=>m3 number i (be b.length) (gW b i)
theorem E8(number:Int)(b:List UInt8)(k:Nat):nP number b (k+1)=nP number b k++[m3 number k (be b.length) (gW b k)]:=by simp[nP,dd]
theorem zP(number:Int)(b:List UInt8)(k:Nat):(nP number b k).length=k:=by simp[nP]
theorem Ht{number:Int}{place all:Nat}{p:List UInt8}(h:p.length≤52):
 wr (eB (KO number++([r8 (place:Int),r8 (all:Int),r8 (p.length:Int)]++List.replicate 52 0))) 7 ((eB p).take (min p.length 52))=eB (jJ number place all p):=by
 have e:(eB p).take (min p.length 52)=eB p:=aB (by rw[bh];omega);rw[e,wr,bh];have e2:(eB (KO number++([r8 (place:Int),r8 (all:Int),r8 (p.length:Int)]++List.replicate 52 0))).take 7=eB (KO number++[r8 (place:Int),r8 (all:Int),r8 (p.length:Int)]):=rfl
 have e3:(eB (KO number++([r8 (place:Int),r8 (all:Int),r8 (p.length:Int)]++List.replicate 52 0))).drop (7+p.length)=eB (List.replicate (52-p.length) 0):=by
  rw[←jj];have:(eB (KO number++([r8 (place:Int),r8 (all:Int),r8 (p.length:Int)]++List.replicate 52 0))).drop 7=eB (List.replicate 52 0):=rfl;rw[this,eB,eB,←lN,Gm]
 rw[e2,e3,jJ];simp[eB]
theorem cE(number:Int)(b:List UInt8):(bl number b).length=be b.length:=by simp[bl]
def fp(s:ix)(number place:Int):Option (List UInt8×Int):=
 match mX (s.take 63)with
 |none=>none
 |some t=>if s.getD 63 0≠1 then none
  else if Em (t.take 4)≠number∨(((t.getD 4 0).toNat:Nat):Int)≠place∨place≥(((t.getD 5 0).toNat:Nat):Int)∨(((t.getD 6 0).toNat:Nat):Int)>52 then none
  else some ((t.drop 7).take (t.getD 6 0).toNat,(((t.getD 5 0).toNat:Nat):Int))
theorem Dm{number:Int}{place all:Nat}{p:List UInt8}(h:p.length≤52)(h0:0≤number)(h1:number<4294967296)(hp:place<all)(ha:all≤255):fp (m3 number place all p) number place=some (p,(all:Int)):=by
 have e1:(m3 number place all p).take 63=qg (jJ number place all p):=by
  rw[m3,ci (by rw[lB,j8 h];omega),aB (by rw[lB,j8 h];omega)]
 have e2:(m3 number place all p).getD 63 0=1:=by
  rw[m3,List.getD_eq_getElem?_getD,List.getElem?_append_right (by rw[lB,j8 h];omega),lB,j8 h];rfl
 have n1:(((r8 (place:Int)).toNat:Nat):Int)=place:=by rw[kq];omega
 have n2:(((r8 (all:Int)).toNat:Nat):Int)=all:=by rw[kq];omega
 have n3:(((r8 (p.length:Int)).toNat:Nat):Int)=p.length:=by rw[kq];omega
 unfold fp;rw[e1,rY];simp only[e2,ne_eq,not_true_eq_false,if_false];have t4:(jJ number place all p).take 4=KO number:=rfl;have g4:(jJ number place all p).getD 4 0=r8 (place:Int):=rfl;have g5:(jJ number place all p).getD 5 0=r8 (all:Int):=rfl;have g6:(jJ number place all p).getD 6 0=r8 (p.length:Int):=rfl;have g7:(jJ number place all p).drop 7=p++List.replicate (52-p.length) 0:=rfl;rw[t4,Mq h0 h1,g4,g5,g6,g7,n1,n2,n3];rw[if_neg (by omega)];have n3':(r8 (p.length:Int)).toNat=p.length:=by omega
 rw[n3'];simp
theorem nR{s:ix}{number place:Int}(h:s.getD 63 0≠1):fp s number place=none:=by
 unfold fp;split
 · rfl
 · rw[if_pos h]
theorem pQ{s b:ix}{number place all:Int}(hs:s.length=64)(h:fp s number place=some (b,all)):place<all∧all≤255∧b.length≤52:=by
 unfold fp at h;split at h
 · cases h
 · rename_i t ht
   have hl:=zM ht;split at h
   · cases h
   · split at h
     · cases h
     · rename_i h2
       injection h with h
       simp only[Prod.mk.injEq]at h;obtain⟨rfl,rfl⟩:=h;have:=(t.getD 5 0).toNat_lt;rw[bq];omega
theorem Bs{s:ix}{number place:Int}(h:mX (s.take 63)=none):fp s number place=none:=by simp only[fp,h]
theorem nh{s t:ix}{number place:Int}(h:mX (s.take 63)=some t)(h2:Em (t.take 4)≠number∨(((t.getD 4 0).toNat:Nat):Int)≠place∨place≥(((t.getD 5 0).toNat:Nat):Int)∨(((t.getD 6 0).toNat:Nat):Int)>52):fp s number place=none:=by
 simp only[fp,h];split
 · rfl
 · first|rfl|rw[if_pos h2]
theorem Dl{s t:ix}{number place:Int}(h:mX (s.take 63)=some t)(h1:s.getD 63 0=1)(h2: ¬(Em (t.take 4)≠number∨(((t.getD 4 0).toNat:Nat):Int)≠place∨place≥(((t.getD 5 0).toNat:Nat):Int)∨(((t.getD 6 0).toNat:Nat):Int)>52)):
 fp s number place=some ((t.drop 7).take (t.getD 6 0).toNat,(((t.getD 5 0).toNat:Nat):Int)):=by
 simp only[fp,h,h1,ne_eq,not_true_eq_false,if_false];rw[if_neg h2]
def lD(rd:Int→ix)(number at' all:Int):Nat→Option (List UInt8)
 |0=>some []
 |k+1=>match lD rd number at' all k with
  |none=>none
  |some b=>match fp (rd (at'+k)) number k with
   |none=>none
   |some (m,same)=>if same=all then some (b++m)else none
def fS(rd:Int→ix)(number at':Int):Option (List UInt8×Int):=
 match fp (rd at') number 0 with
 |none=>none
 |some (_,all)=>(lD rd number at' all all.toNat).map λb=>(b,all)
theorem Fu{rd:Int→ix}{number at' all:Int}{k:Nat}(h:lD rd number at' all k=none): ∀m,k≤m→lD rd number at' all m=none:=by
 intro m hm
 induction hm with
 |refl=>exact h
 |step _ ih=>simp only[lD,ih]
theorem xX{rd:Int→ix}{number at' all:Int}{k:Nat}(h:fp (rd (at'+k)) number k=none∨∃m same,fp (rd (at'+k)) number k=some (m,same)∧same≠all): ∀m,k<m→lD rd number at' all m=none:=by
 refine λm hm=>Fu (k:=k+1) ?_ m hm
 simp only[lD];cases lD rd number at' all k with
 |none=>rfl
 |some b=>
  rcases h with h| ⟨x,same,h,h2⟩
  · simp only[h]
  · simp only[h,if_neg h2]
theorem xZ{rd:Int→ix}{number at' all:Int}{k:Nat}{b x:List UInt8}(h:lD rd number at' all k=some b)(h2:fp (rd (at'+k)) number k=some (x,all)):lD rd number at' all (k+1)=some (b++x):=by
 simp only[lD,h,h2,if_true]
theorem Ip{rd:Int→ix}{number at' all:Int}{b:List UInt8}(h:fp (rd at') number 0=some (b,all)):lD rd number at' all 1=some b:=by
 have h0:lD rd number at' all 0=some []:=rfl;have:=xZ (rd:=rd) (number:=number) (at':=at') (all:=all) (k:=0) h0 (x:=b) (by simpa using h)
 simpa using this
theorem rJ{rd:Int→ix}{number at':Int}(h:fp (rd at') number 0=none):fS rd number at'=none:=by simp only[fS,h]
theorem rI{rd:Int→ix}{number at' all:Int}{b:List UInt8}(h:fp (rd at') number 0=some (b,all))(h2:lD rd number at' all all.toNat=none):fS rd number at'=none:=by simp only[fS,h,h2,Option.map_none]
theorem tx{rd:Int→ix}{number at' all:Int}{b c:List UInt8}(h:fp (rd at') number 0=some (b,all))(h2:lD rd number at' all all.toNat=some c):fS rd number at'=some (c,all):=by simp only[fS,h,h2,Option.map_some]
def gm(rd:Int→ix):Nat→Int→Int→List (List UInt8)×Int
 |0,_,used=>([],used)
 |f+1,cnt,used=>match fS rd (cnt+1) used with
  |none=>([],used)
  |some (b,all)=>let r:=gm rd f (cnt+1) (used+all);(b::r.1,r.2)
def gK:Nat→Int→DS→Int×DS
 |0,_,D=>(0,D)
 |n+1,at',D=>if D.read at'=zs then gK n (at'+1) D else if(D.write at' []).1=0 then gK n (at'+1) (D.write at' []).2 else D.write at' []
structure OpenR where
 err:Int
 recs:List (List UInt8)
 used:Int
 D:DS
def iF:Nat:=2049
theorem qU:iF=2049:=rfl
def bJ(D:DS):OpenR:=
 let r:=gm D.read iF 0 0;let w:=gK (2048-r.2).toNat r.2 D
 if w.1≠0 then⟨w.1,[],0,w.2⟩else if w.2.sync.1≠0 then⟨w.2.sync.1,[],0,w.2.sync.2⟩else⟨0,r.1,r.2,w.2.sync.2⟩
def In(s:fK):Prop:=∀p∈s,0≤p.1∧p.1<2048
def DS.In(D:DS):Prop:=Wal.In D.s∧Wal.In D.ws
end Wal
end

section
namespace Go.Proofs.YtjblgopghhgflaaGreat
open Go Leg Codec Api Dsk Wal
theorem GG(x:Value)(ps:List (List UInt8)):
 DT 128 #[x] (PW x ps) [] (RI (.int .u32 (gB ps.flatten)) []):=by
 refine BD 39 Tryz.func128 rfl rfl rfl λw0 F hF=>sr λ_ J1=>PS ?_
 refine nx J1 (sr λ_ J2=>PS ?_);refine nx J2 (aa λ_ J3=>sr λ_ J4=>PS ?_);refine tp (ef rfl wB rfl hF.len) ?_;refine PS ?_;refine nx J4 (aq ?_)
 refine bA (α:=(Nat)) (λk=>k≤ps.length) (λk=>[(2,(.int .u32 0)),(3,(.int .u32 (fR 4294967295 (ps.take k).flatten))),(8,x),(9,(.int .i64 (((ps.length:Nat):Int)))),(10,(.int .i64 (((k:Nat):Int))))]) (λk=>[]) (λk=>ps.length-k) 0
  (aN _) SB
  (λ_ s=>s) (λk hinv=>?_)
 obtain hk:=hinv;refine sr λ_ J5=>PS ?_
 refine ao ?_ ?_<;>intro h11;obtain⟨b_a,off_a,cap_a,cs_a,T_a,z_a,us_a,hv_a,hc_a,hb_a,hl_a,hs_a,hE_a⟩:=IsL.at hF (j:=k) (by omega);obtain⟨u_a,rfl,hu_a⟩:=hE_a;refine nx J5 (aa λ_ J6=>CY (qx J6 (aa λ_ J7=>aq (sr λ_ J8=>tp (bU (r:=off_a+k) hv_a rfl wB oM rfl rfl (by omega) (by omega) (by omega)) ?_))));refine tp (dr (v:=u_a) rfl ic rfl rfl (ED hb_a (λ_ h=>fN h)) (by have:=CG (j:=0) hs_a rfl;simpa using this)) ?_;refine PS ?_;refine nx J8 (sr λ_ J9=>PS ?_);refine tp (ef rfl ic rfl hu_a.len) ?_;refine PS ?_;refine nx J9 (aq ?_)
 refine bA (α:=(Nat)) (λj=>j≤ps[k].length) (λj=>[(2,(.int .u32 0)),(3,(.int .u32 (fR (fR 4294967295 (ps.take k).flatten) (ps[k].take j)))),(8,x),(9,(.int .i64 (((ps.length:Nat):Int)))),(10,(.int .i64 (((k:Nat):Int)))),(14,u_a),(15,(.int .i64 (((ps[k].length:Nat):Int)))),(16,(.int .i64 (((j:Nat):Int))))]) (λj=>[]) (λj=>ps[k].length-j) 0
  (aN _) SB
  (λ_ s=>s) (λj hinv=>?_)
 obtain hj:=hinv;refine sr λ_ J10=>PS ?_
 refine ao ?_ ?_<;>intro h17;obtain⟨b_b,off_b,cap_b,cs_b,T_b,z_b,hv_b,hb_b,hcs_b,hcp_b⟩:=IsW.at hu_a (j:=j) (by omega);have hlt_b:=IsW.lt hu_a;refine nx J10 (aa λ_ J11=>CY (qx J11 (aa λ_ J12=>aq (sr λ_ J13=>tp (bU (r:=off_b+j) hv_b rfl ic mg rfl rfl (by omega) (by omega) (by omega)) ?_))));refine tp (dr (v:=(.int .u8 (((((ps[k]).getD j 0).toNat:Nat):Int)))) rfl Y5 rfl rfl (ED hb_b (λ_ h=>fN h)) (hcs_b j (by omega))) ?_;refine PS ?_;refine nx J13 (sr λ_ J14=>P2 ?_);refine tp (eM (r:=((((ps[k]).getD j 0).toNat:Nat):Int)) rfl Y5 Cb rfl (ll (by omega) (by have:=(ps[k].getD j 0).toNat_lt;omega))) ?_;refine tp (PV.xor (r:=qv .u32 (fR (fR 4294967295 (ps.take k).flatten) (ps[k].take j)) (((((ps[k]).getD j 0).toNat:Nat):Int))) rfl rfl rfl rfl) ?_;refine PS ?_;refine nx J14 (sr λ_ J15=>PS ?_);refine nx J15 (aq ?_)
 refine bA (α:=(Nat)) (λi=>i≤8) (λi=>[(2,(.int .u32 0)),(3,(.int .u32 (ny (qv .u32 (fR (fR 4294967295 (ps.take k).flatten) (ps[k].take j)) ((((ps[k]).getD j 0).toNat:Nat):Int)) i))),(8,x),(9,(.int .i64 (((ps.length:Nat):Int)))),(10,(.int .i64 (((k:Nat):Int)))),(14,u_a),(15,(.int .i64 (((ps[k].length:Nat):Int)))),(16,(.int .i64 (((j:Nat):Int)))),(24,(.int .i64 (((i:Nat):Int))))]) (λi=>[]) (λi=>8-i) 0
  (aN _) SB
  (λ_ s=>s) (λi hinv=>?_)
 obtain hi:=hinv;refine sr λ_ J16=>PS ?_
 refine ao ?_ ?_<;>intro h25;refine nx J16 (aa λ_ J17=>CY (qx J17 (aa λ_ J18=>aq (sr λ_ J19=>PS ?_))));refine tp (wF (r:=uq .u32 (ny (qv .u32 (fR (fR 4294967295 (ps.take k).flatten) (ps[k].take j)) ((((ps[k]).getD j 0).toNat:Nat):Int)) i) 1) rfl rfl rfl rfl) ?_;refine PS ?_;refine ao ?_ ?_<;>intro h28;refine nx J19 (CY (ae (PS ?_)));refine tp (mI (r:=(ny (qv .u32 (fR (fR 4294967295 (ps.take k).flatten) (ps[k].take j)) ((((ps[k]).getD j 0).toNat:Nat):Int)) i).fdiv 2) rfl rfl rfl (by omega) rfl) ?_;refine tp (PV.xor (r:=qv .u32 ((ny (qv .u32 (fR (fR 4294967295 (ps.take k).flatten) (ps[k].take j)) ((((ps[k]).getD j 0).toNat:Nat):Int)) i).fdiv 2) 3988292384) rfl rfl rfl rfl) ?_;refine PS ?_;refine au (ag (ac J18 (ae (AD ?_))));refine PS ?_;refine au ?_
 exact aK ((i+1):(Nat)) (by omega) (by show 8- (i+1)<8-i;omega)
  (aS (bv rfl (congrArg (Value.int .u32) (by rw[ny,F5,if_pos h28])) SB))
  (λ_ s=>s)
 refine nx J19 (CN (ae (PS ?_)));refine tp (mI (r:=(ny (qv .u32 (fR (fR 4294967295 (ps.take k).flatten) (ps[k].take j)) ((((ps[k]).getD j 0).toNat:Nat):Int)) i).fdiv 2) rfl rfl rfl (by omega) rfl) ?_;refine PS ?_;refine au (ag (ac J18 (ae (AD ?_))));refine PS ?_;refine au ?_
 exact aK ((i+1):(Nat)) (by omega) (by show 8- (i+1)<8-i;omega)
  (aS (bv rfl (congrArg (Value.int .u32) (by rw[ny,F5,if_neg h28])) SB))
  (λ_ s=>s)
 refine nx J16 (aa λ_ J20=>CN (aX (aA (aA (bu (ag (ac J12 (ae (AD ?_)))))))));refine PS ?_;refine au ?_
 exact aK ((j+1):(Nat)) (by omega) (by show ps[k].length- (j+1)<ps[k].length-j;omega)
  (aS (bv rfl (congrArg (Value.int .u32) (by obtain rfl:i=8:=(by omega);rw[Eb (by omega)];rfl)) SB))
  (λ_ s=>s)
 refine nx J10 (aa λ_ J21=>CN (aX (aA (aA (bu (ag (ac J7 (ae (AD ?_)))))))));refine PS ?_;refine au ?_
 exact aK ((k+1):(Nat)) (by omega) (by show ps.length- (k+1)<ps.length-k;omega)
  (aS (bv rfl (congrArg (Value.int .u32) (by rw[show j=ps[k].length by omega,iY,Ec (by omega)])) SB))
  (λ_ s=>s)
 refine nx J5 (aa λ_ J22=>CN (aX (aA (aA (bu (ac J3 (sr λ_ J23=>PS ?_)))))));refine tp (PV.com (r:=qv .u32 4294967295 (fR 4294967295 (ps.take k).flatten)) rfl rfl rfl) ?_;refine PS ?_;refine nx J23 (aj (WK [] (aw rfl rfl ?_)));obtain rfl:k=ps.length:=by omega
 rw[iY];exact⟨rfl,rfl⟩
theorem vD(x:Value)(bs:List UInt8)(hb:bs.length≤1000000000):
 DT 90 #[x] (IsW x bs) [] (dB (λv H=>H=[ee v (qg bs) 5])):=by
 refine BD 29 Tryz.func90 rfl rfl rfl λw0 F hF=>sr λ_ J1=>PS ?_
 refine nx J1 (sr λ_ J2=>PS ?_);refine aW (cells:=#[x]) (ab rfl) rfl rfl rfl wB IE rfl rfl rfl (tV hF.one (by simp)) (λb6=>CF M3 (GG (.slice (some ⟨b6,0,none⟩) (1) (1)) [bs]) ID (DJ hF 0 rfl rfl) ?_);rw[show [bs].flatten=bs by simp];refine PS ?_;refine nx J2 (sr λ_ J3=>PS ?_);refine tp (ef rfl ic rfl hF.len) ?_;refine AD ?_;refine TL.makeB (0) (bs.length+4) (ab rfl) rfl rfl rfl ic Ao rfl rfl rfl (by omega) (by omega) (by omega) (λb11=>cJ (H':=[ee (.slice (some ⟨b11,0,none⟩) 0 (bs.length+4)) ([]) 5,am b6 [x] 93]) (λ_ s=>GB 0 rfl rfl (by omega) (by simp only[maxLen];omega) (by simp[eB]) rfl s) (PS ?_));refine nx J3 (sr λ_ J4=>P2 ?_);refine cS (k:=0) (news:=eB (bs)) (nn':=(bs:List UInt8).length) (xs':=eB (bs)) (ab rfl) rfl rfl rfl ic Ao rfl rfl rfl rfl rfl rfl (λ_ _=>hF.src (λ_ h=>fN h)) (fk _) (by simp only[maxLen,aE];omega) (by simp only[aE];omega) (by simp) (bb _) (λv14 ov14=>PS ?_);refine nx J4 (sr λ_ J5=>P2 ?_);refine tp (eM (r:=(((r8 (gB bs)).toNat:Nat):Int)) rfl Cb Y5 rfl (r8_wrap _)) ?_;refine PS ?_;refine tp (mI (r:=(gB bs).fdiv 256) rfl rfl rfl (by omega) rfl) ?_;refine tp (eM (r:=(((r8 ((gB bs).fdiv 256)).toNat:Nat):Int)) rfl Cb Y5 rfl (r8_wrap _)) ?_;refine PS ?_;refine tp (mI (r:=(gB bs).fdiv 65536) rfl rfl rfl (by omega) rfl) ?_;refine tp (eM (r:=(((r8 ((gB bs).fdiv 65536)).toNat:Nat):Int)) rfl Cb Y5 rfl (r8_wrap _)) ?_;refine PS ?_
 refine tp (mI (r:=(gB bs).fdiv 16777216) rfl rfl rfl (by omega) rfl) ?_;refine tp (eM (r:=(((r8 ((gB bs).fdiv 16777216)).toNat:Nat):Int)) rfl Cb Y5 rfl (r8_wrap _)) ?_;refine aW (cells:=#[(.int .u8 ((((r8 (gB bs)).toNat:Nat):Int))),(.int .u8 ((((r8 ((gB bs).fdiv 256)).toNat:Nat):Int))),(.int .u8 ((((r8 ((gB bs).fdiv 65536)).toNat:Nat):Int))),(.int .u8 ((((r8 ((gB bs).fdiv 16777216)).toNat:Nat):Int)))]) (ab rfl) rfl rfl rfl ic Ao rfl rfl rfl (by as_aux_lemma=>kernel_rfl) (λb27=>cS (k:=1) (news:=eB ([(r8 (gB bs)),(r8 ((gB bs).fdiv 256)),(r8 ((gB bs).fdiv 65536)),(r8 ((gB bs).fdiv 16777216))])) (nn':=(bs++[(r8 (gB bs)),(r8 ((gB bs).fdiv 256)),(r8 ((gB bs).fdiv 65536)),(r8 ((gB bs).fdiv 16777216))]:List UInt8).length) (xs':=eB (bs++[(r8 (gB bs)),(r8 ((gB bs).fdiv 256)),(r8 ((gB bs).fdiv 65536)),(r8 ((gB bs).fdiv 16777216))])) (ab rfl) rfl rfl rfl ic Ao rfl rfl rfl rfl rfl rfl (λ_ _=>kj rfl (RO 0) rfl) (fk [(r8 (gB bs)),(r8 ((gB bs).fdiv 256)),(r8 ((gB bs).fdiv 65536)),(r8 ((gB bs).fdiv 16777216))]) (by simp only[maxLen];omega) (by omega) (by simp) (jH _ _).symm (λv28 ov28=>PS ?_));exact nx J5 (aj (WK [1] (aw rfl rfl rfl)))
theorem Hu(a:Option Addr)(c:Nat)(bs:List UInt8)(hc:bs.length≤c)(hb:bs.length≤1000000000):
 DT 167 #[(.slice a bs.length c)] (IsW (.slice a bs.length c) bs) [] (dB (λv H=>(mX bs=none∧v= .tuple #[.slice none 0 0, .bool false]∧H=[])∨∃t u,mX bs=some t∧v= .tuple #[u, .bool true]∧H=[ee u t 5])):=by
 refine BD 50 Tryz.func167 rfl rfl rfl λw0 F hF=>sr λ_ J1=>P2 ?_
 refine nx J1 (aa λ_ J2=>sr λ_ J3=>PS ?_);refine tp (ef rfl ic rfl ⟨_,_,rfl⟩) ?_;refine PS ?_;refine ao ?_ ?_<;>intro h9;refine nx J3 (CY (sr λ_ J4=>P2 ?_));refine nx J4 (aj (af (WK [] (jr rfl rfl rfl ?_))));exact .inl ⟨by rw[mX,if_pos (by omega)],rfl,rfl⟩;have hT:IsW (kK (.slice a bs.length c) 0 (bs.length-4)) (bs.take (bs.length-4)) F:=by have:=hF.cut (lo:=0) (hi:=bs.length-4) (by omega) (by omega);simpa using this
 have hU:IsW (kK (.slice a bs.length c) (bs.length-4) bs.length) (bs.drop (bs.length-4)) F:=by have:=hF.cut (lo:=bs.length-4) (hi:=bs.length) (by omega) (by omega);rwa [iY]at this
 have hq:(bs.drop (bs.length-4)).length=4:=by rw[eu];omega
 obtain⟨b_b,off_b,cap_b,cs_b,T_b,z_b,hv_b,hb_b,hcs_b,hcp_b⟩:=IsW.at hU (j:=0) (by omega);have hlt_b:=IsW.lt hU;refine nx J3 (CN (qx J2 (aa λ_ J5=>D0 dK ?_)));refine PD 0 ?_;refine PD 1 ?_;refine ta 2 rfl (ef rfl ic rfl ⟨_,_,rfl⟩) ?_;refine ta 3 rfl (jC (r:=(((bs.length-4:Nat):Nat):Int)) rfl rfl rfl (by rw[show(((bs.length:Nat):Int)-4)=((bs.length-4:Nat):Int)by omega];exact bX (by omega) (by omega))) ?_;refine ta 4 rfl (PV.sliceH (hi:=bs.length-4) rfl ic mg rfl rfl rfl (by omega)) ?_;refine PD 5 ?_;refine PD 6 ?_;refine ta 7 rfl (ef rfl ic rfl ⟨_,_,rfl⟩) ?_;refine ta 8 rfl (jC (r:=(((bs.length-4:Nat):Nat):Int)) rfl rfl rfl (by rw[show(((bs.length:Nat):Int)-4)=((bs.length-4:Nat):Int)by omega];exact bX (by omega) (by omega))) ?_;refine ta 9 rfl (PV.sliceL (lo:=bs.length-4) rfl ic mg rfl rfl rfl (by omega)) ?_;refine PD 10 ?_;refine PD 11 ?_;refine DN (ac J5 (aa λ_ J6=>D0 dK ?_));refine PD 0 ?_;refine ta 1 rfl (bU (r:=off_b) hv_b rfl ic mg rfl rfl (by omega) (by omega) (by omega)) ?_;refine ta 2 rfl (dr (v:=(.int .u8 ((((((bs.drop (bs.length-4))).getD 0 0).toNat:Nat):Int)))) rfl Y5 rfl rfl (ED hb_b (λ_ h=>h.1)) (hcs_b 0 (by omega))) ?_;refine ta 3 rfl (eM (r:=(((((bs.drop (bs.length-4))).getD 0 0).toNat:Nat):Int)) rfl Y5 Cb rfl (ll (by omega) (by have:=UInt8.toNat_lt (n:=(bs.drop (bs.length-4)).getD 0 0);omega))) ?_;refine PD 4 ?_
 refine ta 5 rfl (bU (r:=off_b+1) hv_b rfl ic mg rfl rfl (by omega) (by omega) (by omega)) ?_;refine ta 6 rfl (dr (v:=(.int .u8 ((((((bs.drop (bs.length-4))).getD 1 0).toNat:Nat):Int)))) rfl Y5 rfl rfl (ED hb_b (λ_ h=>h.1)) (hcs_b 1 (by omega))) ?_;refine ta 7 rfl (eM (r:=(((((bs.drop (bs.length-4))).getD 1 0).toNat:Nat):Int)) rfl Y5 Cb rfl (ll (by omega) (by have:=UInt8.toNat_lt (n:=(bs.drop (bs.length-4)).getD 1 0);omega))) ?_;refine ta 8 rfl (zx (r:=IntKind.u32.wrap ((((((bs.drop (bs.length-4))).getD 1 0).toNat:Nat):Int)*2^8)) rfl rfl rfl (by omega) rfl) ?_;refine ta 9 rfl (KX (r:=js .u32 (((((bs.drop (bs.length-4))).getD 0 0).toNat:Nat):Int) (IntKind.u32.wrap ((((((bs.drop (bs.length-4))).getD 1 0).toNat:Nat):Int)*2^8))) rfl rfl rfl rfl) ?_;refine PD 10 ?_;refine ta 11 rfl (bU (r:=off_b+2) hv_b rfl ic mg rfl rfl (by omega) (by omega) (by omega)) ?_;refine ta 12 rfl (dr (v:=(.int .u8 ((((((bs.drop (bs.length-4))).getD 2 0).toNat:Nat):Int)))) rfl Y5 rfl rfl (ED hb_b (λ_ h=>h.1)) (hcs_b 2 (by omega))) ?_;refine ta 13 rfl (eM (r:=(((((bs.drop (bs.length-4))).getD 2 0).toNat:Nat):Int)) rfl Y5 Cb rfl (ll (by omega) (by have:=UInt8.toNat_lt (n:=(bs.drop (bs.length-4)).getD 2 0);omega))) ?_;refine ta 14 rfl (zx (r:=IntKind.u32.wrap ((((((bs.drop (bs.length-4))).getD 2 0).toNat:Nat):Int)*2^16)) rfl rfl rfl (by omega) rfl) ?_
 refine ta 15 rfl (KX (r:=js .u32 (js .u32 (((((bs.drop (bs.length-4))).getD 0 0).toNat:Nat):Int) (IntKind.u32.wrap ((((((bs.drop (bs.length-4))).getD 1 0).toNat:Nat):Int)*2^8))) (IntKind.u32.wrap ((((((bs.drop (bs.length-4))).getD 2 0).toNat:Nat):Int)*2^16))) rfl rfl rfl rfl) ?_;refine PD 16 ?_;refine ta 17 rfl (bU (r:=off_b+3) hv_b rfl ic mg rfl rfl (by omega) (by omega) (by omega)) ?_;refine ta 18 rfl (dr (v:=(.int .u8 ((((((bs.drop (bs.length-4))).getD 3 0).toNat:Nat):Int)))) rfl Y5 rfl rfl (ED hb_b (λ_ h=>h.1)) (hcs_b 3 (by omega))) ?_;refine ta 19 rfl (eM (r:=(((((bs.drop (bs.length-4))).getD 3 0).toNat:Nat):Int)) rfl Y5 Cb rfl (ll (by omega) (by have:=UInt8.toNat_lt (n:=(bs.drop (bs.length-4)).getD 3 0);omega))) ?_;refine ta 20 rfl (zx (r:=IntKind.u32.wrap ((((((bs.drop (bs.length-4))).getD 3 0).toNat:Nat):Int)*2^24)) rfl rfl rfl (by omega) rfl) ?_;refine ta 21 rfl (KX (r:=Kp ((bs.drop (bs.length-4)).getD 0 0) ((bs.drop (bs.length-4)).getD 1 0) ((bs.drop (bs.length-4)).getD 2 0) ((bs.drop (bs.length-4)).getD 3 0)) rfl rfl rfl rfl) ?_;refine PD 22 ?_;refine DN (ac J6 (aa λ_ J7=>sr λ_ J8=>PS ?_));refine aW (cells:=#[(kK (.slice a bs.length c) 0 (bs.length-4))]) (ab rfl) rfl rfl rfl wB IE rfl rfl rfl (tV hT.one (by simp)) (λb43=>CF M3 (GG (.slice (some ⟨b43,0,none⟩) (1) (1)) [(bs.take (bs.length-4))]) ID (DJ hT 0 rfl rfl) ?_)
 rw[show [(bs.take (bs.length-4))].flatten=(bs.take (bs.length-4))by simp];refine P2 ?_;refine ao ?_ ?_<;>intro h46;refine nx J8 (CY (sr λ_ J9=>P2 ?_));refine nx J9 (aj (af (WK [] (jr rfl rfl rfl ?_))));exact .inl ⟨by rw[mX,if_neg (by omega),if_neg h46],rfl,rfl⟩;refine nx J8 (CN (qx J7 (sr λ_ J10=>Et (ab rfl) rfl rfl rfl ic mg (λv47=>PS ?_))));refine cS (k:=0) (news:=eB ((bs.take (bs.length-4)))) (nn':=((bs.take (bs.length-4)):List UInt8).length) (xs':=eB ((bs.take (bs.length-4)))) (ab rfl) rfl rfl rfl ic Ao rfl rfl rfl rfl rfl rfl (λ_ _=>hT.src (λ_ h=>fN h)) (fk _) (by simp only[maxLen,aE,bq];omega) (by simp only[aE,bq];omega) (by simp) (bb _) (λv49 ov49=>P2 ?_);refine nx J10 (aj (WK [0] (jr rfl rfl rfl ?_)));exact .inr ⟨_,_,by rw[mX,if_neg (by omega),if_pos (by simpa using h46)],rfl,rfl⟩
theorem zL(x:Value)(bs:List UInt8)(hb:bs.length≤1000000000):DT 167 #[x] (IsW x bs) [] (dB (λv H=>(mX bs=none∧v= .tuple #[.slice none 0 0, .bool false]∧H=[])∨∃t u,mX bs=some t∧v= .tuple #[u, .bool true]∧H=[ee u t 5])):=λw G h m=>by
 obtain⟨a,c,rfl,hc,_⟩:=h.form;exact Hu a c bs hc hb w G h m
theorem vQ(n:Nat)(hn:n≤1000000000000):
 DT 176 #[(.int .i64 (((n:Nat):Int)))] T0 [] (RI (.int .i64 ((be n:Nat):Int)) []):=by
 refine BD 9 Tryz.func176 rfl rfl rfl λw0 F hF=>sr λ_ J1=>PS ?_
 refine nx J1 (aa λ_ J2=>sr λ_ J3=>P2 ?_);refine ao ?_ ?_<;>intro h4;refine nx J3 (CY (sr λ_ J4=>PS ?_));refine nx J4 (aj (af (WK [] (aw rfl rfl ?_))));obtain rfl:n=0:=by omega
 exact⟨rfl,rfl⟩;refine nx J3 (CN (qx J2 (sr λ_ J5=>PS ?_)));refine tp (jC rfl rfl rfl (bX (by omega) (by omega))) ?_;refine tp (PV.quo (r:=(((n-1) / 52:Nat):Int)) rfl rfl rfl (by omega) (by rw[show(((n:Nat):Int)-1)=((n-1:Nat):Int)by omega];exact Nv (n-1) 52 (by omega))) ?_;refine AD ?_;refine PS ?_;refine nx J5 (aj (WK [] (aw rfl rfl ?_)));rw[be,if_neg (by omega)];exact⟨by simp,rfl⟩
theorem E9{number:Int}{bs:List UInt8}{k:Nat}:nP number bs (k+1)=nP number bs k++[qg (jJ number k (be bs.length) (gW bs k))++[1]]:=E8 number bs k
theorem Be(a:Option Addr)(c number:Nat)(bs:List UInt8)(hc:bs.length≤c)(hb:bs.length≤3000):
 DT 178 #[(.int .i64 (((number:Nat):Int))),(.slice a bs.length c)] (IsW (.slice a bs.length c) bs) [] (dB (λv H=>H=[m4 93 5 v (bl ((number:Nat):Int) bs)])):=by
 refine BD 68 Tryz.func178 rfl rfl rfl λw0 F hF=>sr λ_ J1=>PS ?_
 refine nx J1 (sr λ_ J2=>PS ?_);refine tp (ef rfl ic rfl ⟨_,_,rfl⟩) ?_;refine CE MM (vQ bs.length (by omega)) ID ?_;refine PS ?_;refine nx J2 (sr λ_ J3=>PS ?_);refine nx J3 (aa λ_ J4=>sr λ_ J5=>P2 ?_);refine nx J5 (aq ?_)
 refine bA (α:=(Nat)×(Value)) (λ⟨k,vr⟩=>k≤be bs.length∧vr.oneCell'=true) (λ⟨k,vr⟩=>[(0,(.int .i64 (((number:Nat):Int)))),(1,(.slice a bs.length c)),(4,(.slice none 0 0)),(5,(.int .i64 (((be bs.length:Nat):Int)))),(6,vr),(14,(.int .i64 (((be bs.length:Nat):Int)))),(15,(.int .i64 (((k:Nat):Int))))]) (λ⟨k,vr⟩=>[m4 93 5 vr (nP ((number:Nat):Int) bs k)]) (λ⟨k,vr⟩=>be bs.length-k) (0,(.slice none 0 0))
  ⟨aN _,rfl⟩ SB
  (λ_ s=>vG 93 5 s) (λ⟨k,vr⟩ hinv=>?_)
 obtain⟨hk,hvr⟩:=hinv;refine sr λ_ J6=>PS ?_
 refine ao ?_ ?_<;>intro h16;have hkn:=LN (n:=bs.length) (k:=k) (by omega);have hpe:=LO bs k;have hP:IsW (kK (.slice a bs.length c) (k*52) (min ((k+1)*52) bs.length)) (gW bs k) F:=by rw[←hpe];exact hF.cut (by omega) (by omega)
 have hpl:=rm bs k;have hpk:=pP hb;have hP2:=hP.len;refine nx J6 (aa λ_ J7=>CY (qx J7 (aa λ_ J8=>aq (sr λ_ J9=>P2 ?_))));refine nx J9 (sr λ_ J10=>P2 ?_);refine tp (Mw (r:=((k*52:Nat):Int)) rfl rfl rfl (by rw[show((k:Nat):Int)*52=((k*52:Nat):Int)by omega];exact bX (by omega) (by omega))) ?_;refine PS ?_;refine AD ?_;refine tp (Mw (r:=(((k+1)*52:Nat):Int)) rfl rfl rfl (by rw[show(((k:Nat):Int)+1)*52=(((k+1)*52:Nat):Int)by omega];exact bX (by omega) (by omega))) ?_;refine PS ?_;refine tp (ef rfl ic rfl ⟨_,_,rfl⟩) ?_;refine tp (PV.minI rfl rfl rfl) ?_;refine tp (PV.sliceLH (lo:=k*52) (hi:=min ((k+1)*52) bs.length) rfl ic mg rfl rfl rfl rfl (by omega) (by omega) (by omega)) ?_;refine PS ?_;refine nx J10 (sr λ_ J11=>TL.makeB (59) (59) (ab rfl) rfl rfl rfl ic Ao rfl rfl rfl rfl (by omega) (by omega) (λb28=>PS ?_));refine nx J11 (aa λ_ J12=>sr λ_ J13=>PS ?_);refine nx J13 (aq (sW 5 (sr λ_ J14=>PS ?_)));refine nx J14 (aa λ_ J15=>CY (qx J15 (aa λ_ J16=>aq (sr λ_ J17=>P2 ?_))));refine nx J17 (ae (P4 ?_));refine tp (jC (r:=3) rfl rfl rfl (by decide)) ?_;refine tp (Mw (r:=24) rfl rfl rfl (by decide)) ?_;refine tp (mI (r:=((number:Nat):Int).fdiv 16777216) rfl rfl rfl (by omega) rfl) ?_;refine tp (eM (r:=(((r8 (((number:Nat):Int).fdiv 16777216)).toNat:Nat):Int)) rfl Y3 Y5 rfl (r8_wrap _)) ?_
 refine tp (kl (r:=0) rfl ic mg rfl rfl (by first|omega|decide) (by first|omega|decide) rfl) ?_;refine S0 0 mg ?_;refine au (ag (ac J16 (ae (tp (cL (r:=1) rfl rfl rfl (by decide)) ?_))));refine PS ?_;refine au (eL (sr λ_ J18=>PS ?_));refine nx J18 (aa λ_ J19=>CY (qx J19 (aa λ_ J20=>aq (sr λ_ J21=>P2 ?_))));refine nx J21 (ae (P4 ?_));refine tp (jC (r:=2) rfl rfl rfl (by decide)) ?_;refine tp (Mw (r:=16) rfl rfl rfl (by decide)) ?_;refine tp (mI (r:=((number:Nat):Int).fdiv 65536) rfl rfl rfl (by omega) rfl) ?_;refine tp (eM (r:=(((r8 (((number:Nat):Int).fdiv 65536)).toNat:Nat):Int)) rfl Y3 Y5 rfl (r8_wrap _)) ?_;refine tp (kl (r:=1) rfl ic mg rfl rfl (by first|omega|decide) (by first|omega|decide) rfl) ?_;refine S0 0 mg ?_;refine au (ag (ac J20 (ae (tp (cL (r:=2) rfl rfl rfl (by decide)) ?_))));refine PS ?_;refine au (eL (sr λ_ J22=>PS ?_));refine nx J22 (aa λ_ J23=>CY (qx J23 (aa λ_ J24=>aq (sr λ_ J25=>P2 ?_))));refine nx J25 (ae (P4 ?_));refine tp (jC (r:=1) rfl rfl rfl (by decide)) ?_;refine tp (Mw (r:=8) rfl rfl rfl (by decide)) ?_;refine tp (mI (r:=((number:Nat):Int).fdiv 256) rfl rfl rfl (by omega) rfl) ?_;refine tp (eM (r:=(((r8 (((number:Nat):Int).fdiv 256)).toNat:Nat):Int)) rfl Y3 Y5 rfl (r8_wrap _)) ?_;refine tp (kl (r:=2) rfl ic mg rfl rfl (by first|omega|decide) (by first|omega|decide) rfl) ?_;refine S0 0 mg ?_
 refine au (ag (ac J24 (ae (tp (cL (r:=3) rfl rfl rfl (by decide)) ?_))));refine PS ?_;refine au (eL (sr λ_ J26=>PS ?_));refine nx J26 (aa λ_ J27=>CY (qx J27 (aa λ_ J28=>aq (sr λ_ J29=>P2 ?_))));refine nx J29 (ae (P4 ?_));refine tp (jC (r:=0) rfl rfl rfl (by decide)) ?_;refine tp (Mw (r:=0) rfl rfl rfl (by decide)) ?_;refine tp (mI (r:=((number:Nat):Int)) rfl rfl rfl (by omega) (Int.fdiv_one _)) ?_;refine tp (eM (r:=(((r8 (((number:Nat):Int))).toNat:Nat):Int)) rfl Y3 Y5 rfl (r8_wrap _)) ?_;refine tp (kl (r:=3) rfl ic mg rfl rfl (by first|omega|decide) (by first|omega|decide) rfl) ?_;refine S0 0 mg ?_;refine au (ag (ac J28 (ae (tp (cL (r:=4) rfl rfl rfl (by decide)) ?_))));refine PS ?_;refine au (eL (sr λ_ J30=>PS ?_));refine nx J30 (aa λ_ J31=>CN (aX (aA (aA (bu (ac J12 (sr λ_ J32=>P4 ?_)))))));refine tp (eM (r:=(((r8 (((k:Nat):Int))).toNat:Nat):Int)) rfl Y3 Y5 rfl (r8_wrap _)) ?_;refine PS ?_;refine tp (eM (r:=(((r8 (((be bs.length:Nat):Int))).toNat:Nat):Int)) rfl Y3 Y5 rfl (r8_wrap _)) ?_;refine PS ?_;refine tp (ef rfl ic rfl hP2) ?_;refine tp (eM (r:=(((r8 ((((gW bs k).length:Nat):Int))).toNat:Nat):Int)) rfl Y3 Y5 rfl (r8_wrap _)) ?_;refine tp (kl (r:=4) rfl ic mg rfl rfl (by first|omega|decide) (by first|omega|decide) rfl) ?_;refine S0 0 mg ?_;refine tp (kl (r:=5) rfl ic mg rfl rfl (by first|omega|decide) (by first|omega|decide) rfl) ?_;refine S0 0 mg ?_
 refine tp (kl (r:=6) rfl ic mg rfl rfl (by first|omega|decide) (by first|omega|decide) rfl) ?_;refine S0 0 mg ?_;refine nx J32 (sr λ_ J33=>PS ?_);refine tp (PV.sliceLo (k:=7) (v:=(.slice (some ⟨b28,7,none⟩) (52) (52))) rfl ic mg rfl rfl rfl (by decide) rfl) ?_;refine PS ?_;refine Of (i:=0) (m:=(gW bs k).length) (news:=(eB (gW bs k))) (H':=[am b28 (eB (jJ ((number:Nat):Int) k (be bs.length) (gW bs k))) 5,m4 93 5 vr (nP ((number:Nat):Int) bs k)]) (ab rfl) rfl rfl rfl ic mg rfl rfl rfl rfl (λ_ _=>hP.src (λ_ h=>fN h)) (fk _) (by show 7+min (gW bs k).length 52≤59;omega) (Ht (number:=((number:Nat):Int)) (place:=k) (all:=be bs.length) hpl) rfl (nx J33 (ae (P2 ?_)));refine CQ OE (vD (.slice (some ⟨b28,0,none⟩) (59) (59)) (jJ ((number:Nat):Int) k (be bs.length) (gW bs k)) (by rw[j8 hpl];decide)) ID (λg d s=>K7 (DI 0 59 (j8 hpl) (by decide) rfl rfl g d s)) λvR HR hR=>?_
 subst hR;refine aW (cells:=#[(.int .u8 1)]) (ab rfl) rfl rfl rfl ic Ao rfl rfl rfl (by as_aux_lemma=>kernel_rfl) (λb62=>cS (k:=1) (news:=eB ([1])) (nn':=(qg (jJ ((number:Nat):Int) k (be bs.length) (gW bs k))++[1]:List UInt8).length) (xs':=eB (qg (jJ ((number:Nat):Int) k (be bs.length) (gW bs k))++[1])) (ab rfl) rfl rfl rfl ic Ao rfl rfl rfl rfl rfl rfl (λ_ _=>kj rfl (RO 0) rfl) (fk [1]) (by rw[lB,j8 hpl];simp only[maxLen];omega) (by rw[lB,j8 hpl];omega) (by simp) (jH _ _).symm (λv63 ov63=>aW (cells:=#[v63]) (ab rfl) rfl rfl rfl wB IE rfl rfl rfl (tV ov63 (by simp)) (λb64=>?_)));change TL _ _ _ _ _ _ _ _ _ [am b64 [v63] 93,am b62 [(.int .u8 1)] 5,ee v63 (qg (jJ ((number:Nat):Int) k (be bs.length) (gW bs k))++[1]) 5,am b28 (eB (jJ ((number:Nat):Int) k (be bs.length) (gW bs k))) 5,m4 93 5 vr (nP ((number:Nat):Int) bs k)];refine cJ (λ_ s=>aD [4] rfl s) (Ng (λus65=>cS (k:=0) (m:=1) (news:=[v63]) (nn':=(nP ((number:Nat):Int) bs k).length+1) (xs':=us65++[v63]) (ab rfl) rfl rfl rfl wB IE rfl rfl rfl rfl rfl rfl (λ_ _=>kj rfl (RO 2) rfl) (List.forall_mem_cons.2 ⟨ov63,λ_ h=>by cases h⟩) (by rw[zP];simp only[maxLen];omega) (by rw[zP];omega) rfl rfl (λv65 ov65=>?_)))
 change TL _ _ _ _ _ _ _ _ _ [own v65 ((nP ((number:Nat):Int) bs k).length+1) (us65++[v63]) 93 1,eQ us65 (nP ((number:Nat):Int) bs k) 5,am b64 [v63] 93,am b62 [(.int .u8 1)] 5,ee v63 (qg (jJ ((number:Nat):Int) k (be bs.length) (gW bs k))++[1]) 5,am b28 (eB (jJ ((number:Nat):Int) k (be bs.length) (gW bs k))) 5];refine cJ (λ_ s=>Bc 4 rfl rfl s) (cJ (H':=[own v65 ((nP ((number:Nat):Int) bs k).length+1) (us65++[v63]) 93 1,eQ us65 (nP ((number:Nat):Int) bs k) 5,hY v63 (qg (jJ ((number:Nat):Int) k (be bs.length) (gW bs k))++[1]) 5,am b64 [v63] 93,am b62 [(.int .u8 1)] 5,am b28 (eB (jJ ((number:Nat):Int) k (be bs.length) (gW bs k))) 5]) (λ_ s=>aD [0,0,2] rfl s) (cJ (λ_ s=>vI s) ?_));rw[←E9];refine PS ?_;refine au (ag (ac J8 (ae (AD ?_))));refine PS ?_;refine au ?_
 exact aK ((k+1,v65):(Nat)×(Value)) ⟨by omega,ov65⟩ (by show be bs.length- (k+1)<be bs.length-k;omega)
  SB
  (λ_ s=>ak [0] rfl s)
 refine nx J6 (aa λ_ J34=>CN (aX (aA (aA (bu (ac J4 (sr λ_ J35=>P2 ?_)))))));refine nx J35 (aj (WK [0] (aw rfl rfl ?_)));obtain rfl:k=be bs.length:=by omega
 exact rfl
theorem Bf(x:Value)(number:Nat)(bs:List UInt8)(hb:bs.length≤3000):DT 178 #[.int .i64 ((number:Nat):Int),x] (IsW x bs) [] (dB (λv H=>H=[m4 93 5 v (bl ((number:Nat):Int) bs)])):=λw G h m=>by
 obtain⟨a,c,rfl,hc,_⟩:=h.form;exact Be a c number bs hc hb w G h m
theorem xO(s:ix)(number place:Int)(hs:s.length=64):
 DT 159 #[(.agg (eB s).toArray),(.int .i64 (number)),(.int .i64 (place))] T0 [] (dB (λv H=>(fp s number place=none∧v= .tuple #[.slice none 0 0, .int .i64 0, .bool false]∧H=[])∨∃b all u,fp s number place=some (b,all)∧v= .tuple #[u, .int .i64 all, .bool true]∧H=[hY u b 5])):=by
 refine BD 74 Tryz.func159 rfl rfl rfl λw0 F hF=>sr λ_ J1=>XY (eB s) λb3=>?_
 refine P3 ?_;refine nx J1 (sr λ_ J2=>tp (Re (k:=63) rfl qm mg rfl rfl (by omega) (by omega) rfl) ?_);refine CQ MP (zL (.slice (some ⟨b3,0,none⟩) (63) (64)) (s.take 63) (by rw[bq];omega)) ID (λg d s'=>K7 (IB 0 63 (by omega) (by omega) (by decide) (by rw[aB (by rw[bh];omega)]) hs.symm rfl rfl g d s')) λvR HR hR=>?_
 rcases hR with⟨ht,rfl,rfl⟩| ⟨t,u,ht,rfl,rfl⟩
 refine P4 ?_;refine PS ?_;refine nx J2 (aa λ_ J3=>sr λ_ J4=>PS ?_);refine PS ?_;refine PS ?_
 iterate 3 refine UT ?_
 refine PS ?_;refine nx J4 (CY (sr λ_ J5=>P3 ?_));exact nx J5 (aj (af (WK [] (oa rfl rfl rfl rfl (.inl ⟨Bs ht,rfl,rfl⟩)))));have htl:=zM ht;rw[bq]at htl;have ht59:t.length=59:=by omega
 refine j5 0 rfl rfl (by omega) (λg cap hv hcap=>P4 ?_);refine PS ?_;refine nx J2 (aa λ_ J6=>sr λ_ J7=>PS ?_);refine PS ?_;refine PS ?_;refine IX 63 qm mg ?_;refine LT 1 Y5 (.int .u8 ((((s.getD 63 0).toNat:Nat):Int))) ?_ (hc:=by exact rV (by omega));refine PS ?_;refine ao ?_ ?_<;>intro h26;refine PS ?_;refine nx J7 (CY (sr λ_ J8=>P3 ?_));refine nx J8 (aj (af (WK [] (oa rfl rfl rfl rfl ?_))));exact .inl ⟨nR (λh=>h26 (by rw[h];rfl)),rfl,rfl⟩;refine PS ?_;refine nx J7 (CN (qx J6 (sr λ_ J9=>PS ?_)));refine nx J9 (aa λ_ J10=>sr λ_ J11=>PS ?_);refine tp (Rj (PV.sliceH (a:=some ⟨g,0,none⟩) (len:=t.length) (cap:=cap) (hi:=4) rfl ic mg (by rw[←hv];rfl) rfl rfl (by omega)) (Mk (by omega))) ?_;refine tp (uy rfl ic rfl) ?_;refine PS ?_;refine nx J11 (aq ?_)
 refine bA (α:=(Nat)) (λk=>k≤4) (λk=>[(1,(.int .i64 (number))),(2,(.int .i64 (place))),(6,(.slice none 0 0)),(7,(.int .i64 0)),(8,(.bool false)),(9,u),(11,(.int .i64 (Em (t.take k)))),(29,(.slice (some ⟨g,0,none⟩) (4) (cap))),(30,(.int .i64 4)),(31,(.int .i64 (((k:Nat):Int))))]) (λk=>[ee u (t) 5,am b3 (eB s) 128]) (λk=>4-k) 0
  (aN _) SB
  (λ_ s=>s) (λk hinv=>?_)
 obtain hk:=hinv;refine sr λ_ J12=>PS ?_
 refine ao ?_ ?_<;>intro h32;refine nx J12 (aa λ_ J13=>CY (qx J13 (aa λ_ J14=>aq (sr λ_ J15=>tp (kl (r:=k) rfl ic mg rfl rfl (by first|omega|decide) (by first|omega|decide) (by omega)) ?_))));refine tp (dr (v:=(.int .u8 ((((t.getD k 0).toNat:Nat):Int)))) rfl Y5 rfl rfl (gC 0 rfl hv rfl) (rV (by omega))) ?_;refine PS ?_;refine nx J15 (ae (PS ?_));refine tp (zx (r:=IntKind.i64.wrap ((Em (t.take k))*2^8)) rfl rfl rfl (by omega) rfl) ?_;refine PS ?_;refine tp (eM (r:=(((t.getD k 0).toNat:Nat):Int)) rfl Y5 Y3 rfl (bX (by omega) (by have:=UInt8.toNat_lt (n:=t.getD k 0);omega))) ?_;refine tp (KX (r:=js .i64 (IntKind.i64.wrap ((Em (t.take k))*2^8)) (((t.getD k 0).toNat:Nat):Int)) rfl rfl rfl rfl) ?_;refine PS ?_;refine au (ag (ac J14 (ae (AD ?_))));refine PS ?_;refine au ?_
 exact aK ((k+1):(Nat)) (by omega) (by show 4- (k+1)<4-k;omega)
  (aS (aS (aS (aS (aS (aS (bv rfl (congrArg (Value.int .i64) (KN (by omega)).symm) SB)))))))
  (λ_ s=>s)
 refine nx J12 (aa λ_ J16=>CN (aX (aA (aA (bu (ac J10 (aa λ_ J17=>sO (λw=>Frm F w∧Hx g (eB (t)) w∧True) dK rfl (λ_ s=>⟨fN s,gC 0 rfl hv rfl _ s,trivial⟩) (PD 0 ?_))))))));refine ta 1 rfl (bU (r:=5) hv rfl ic mg rfl rfl (by omega) (by omega) rfl) ?_;refine ta 2 rfl (dr (v:=(.int .u8 ((((t.getD 5 0).toNat:Nat):Int)))) rfl Y5 rfl rfl (λ_ h=>h.2.1) (rV (by omega))) ?_;refine ta 3 rfl (eM (r:=(((t.getD 5 0).toNat:Nat):Int)) rfl Y5 Y3 rfl (bX (by omega) (by have:=UInt8.toNat_lt (n:=t.getD 5 0);omega))) ?_;refine PD 4 ?_;refine ta 5 rfl (bU (r:=6) hv rfl ic mg rfl rfl (by omega) (by omega) rfl) ?_;refine ta 6 rfl (dr (v:=(.int .u8 ((((t.getD 6 0).toNat:Nat):Int)))) rfl Y5 rfl rfl (λ_ h=>h.2.1) (rV (by omega))) ?_;refine ta 7 rfl (eM (r:=(((t.getD 6 0).toNat:Nat):Int)) rfl Y5 Y3 rfl (bX (by omega) (by have:=UInt8.toNat_lt (n:=t.getD 6 0);omega))) ?_;refine PD 8 ?_;refine PD 9 ?_;refine DN (ac J17 (aa λ_ J18=>sr λ_ J19=>P3 ?_));refine ao ?_ ?_<;>intro h51;refine PS ?_
 iterate 6 refine UT ?_
 refine P2 ?_
 iterate 3 refine UT ?_
 refine P2 ?_;refine UT ?_;refine UT ?_;refine PS ?_;refine nx J19 (CY (sr λ_ J20=>P3 ?_));refine nx J20 (aj (af (WK [] (oa rfl rfl rfl rfl ?_))));exact .inl ⟨nh ht (.inl (by have:k=4:=(by omega);subst this;exact h51)),rfl,rfl⟩;refine P2 ?_;refine tq (bU (r:=4) hv rfl ic mg rfl rfl (by omega) (by omega) rfl) ?_;refine tq (dr (v:=(.int .u8 ((((t.getD 4 0).toNat:Nat):Int)))) rfl Y5 rfl rfl (gC 0 rfl hv rfl) (rV (by omega))) ?_;refine tq (eM (r:=(((t.getD 4 0).toNat:Nat):Int)) rfl Y5 Y3 rfl (bX (by omega) (by have:=UInt8.toNat_lt (n:=t.getD 4 0);omega))) ?_;refine P2 ?_;refine ao ?_ ?_<;>intro h58;refine P2 ?_
 iterate 3 refine UT ?_
 refine P2 ?_;refine UT ?_;refine UT ?_;refine PS ?_;refine nx J19 (CY (sr λ_ J21=>P3 ?_));exact nx J21 (aj (af (WK [] (oa rfl rfl rfl rfl (.inl ⟨nh ht (.inr (.inl h58)),rfl,rfl⟩)))))
 iterate 5 refine PS ?_
 refine ao ?_ ?_<;>intro h63;refine P2 ?_;refine UT ?_;refine UT ?_;refine PS ?_;refine nx J19 (CY (sr λ_ J22=>P3 ?_));exact nx J22 (aj (af (WK [] (oa rfl rfl rfl rfl (.inl ⟨nh ht (.inr (.inr (.inl h63))),rfl,rfl⟩)))));refine P4 ?_;refine ao ?_ ?_<;>intro h67;refine PS ?_;refine nx J19 (CY (sr λ_ J23=>P3 ?_));exact nx J23 (aj (af (WK [] (oa rfl rfl rfl rfl (.inl ⟨nh ht (.inr (.inr (.inr h67))),rfl,rfl⟩)))));refine PS ?_;refine nx J19 (CN (qx J18 (sr λ_ J24=>P2 ?_)));refine tp (cL (r:=((7+(t.getD 6 0).toNat:Nat):Int)) rfl rfl rfl (by rw[show(7:Int)+(((t.getD 6 0).toNat:Nat):Int)=((7+(t.getD 6 0).toNat:Nat):Int)by omega];have:=UInt8.toNat_lt (n:=t.getD 6 0);exact bX (by omega) (by omega))) ?_;refine tp (Rj (PV.sliceLH (a:=some ⟨g,0,none⟩) (len:=t.length) (cap:=cap) (lo:=7) (hi:=7+(t.getD 6 0).toNat) rfl ic mg (by rw[←hv];rfl) rfl rfl rfl rfl (by omega) (by omega)) (congrArg (λq=>kK q 7 (7+(t.getD 6 0).toNat)) hv.symm)) ?_;refine P4 ?_;refine nx J24 (aj (aF (H':=[hY (kK u 7 (7+(t.getD 6 0).toNat)) ((t.drop 7).take (t.getD 6 0).toNat) 5]) (dE _) (λ_ s'=>ak [0] rfl (xp 0 rfl rfl hv (by omega) (by omega) (by omega) (by rw[pB,cu]) s')) (oa rfl rfl rfl rfl ?_)));obtain rfl:k=4:=by omega
 have h1:s.getD 63 0=1:=UInt8.toNat_inj.1 (by have h1':(1:UInt8).toNat=1:=rfl;omega);exact .inr ⟨_,_,_,Dl ht h1 (by omega),rfl,rfl⟩
end Go.Proofs.YtjblgopghhgflaaGreat
end

section
namespace Wal
open Go Leg Codec Api Dsk
theorem vd(i:Nat){us:List Value}{ls:List (List UInt8)}{e k:Nat}{B:List HP}{F:Hl}(hk:k<ls.length)(hi:Nat.blt i B.length=true)(hH:B.getD i (λ_=>True)=eQ us ls e): ∀g,Dj g F→bH B g→IsB (us.getD k undef) ls[k] (jn g F):=λg d s=>by
 obtain⟨h1,h2,d',rfl,a,_⟩:=fl i (lb hi) s;rw[hH]at a;obtain⟨hl,a⟩:=a;obtain⟨u,e1,k1,k2,dk,rfl,a3⟩:=yE us ls e _ hl a k hk;rw[List.getD_eq_getElem?_getD,e1];exact CD a3 λb o e=>iz (iz (iz e))
theorem In.read{s ws:fK}(h1:In s)(h2:In ws)(at':Int)(h: ¬(0≤at'∧at'<2048)): ∀k,k≤ws.length→jb s ws at' k=zs
 |0,_=>by
  show fa s at'=zs
  induction s with
  |nil=>rfl
  |cons p s ih=>
   obtain⟨a,b⟩:=p;simp only[fa];have hh:=h1 (a,b) (by simp);rw[if_neg (λe=>h (by simp only at hh;omega))];exact ih λq hq=>h1 q (by simp[hq])
 |k+1,hk=>by
  simp only[jb];rw[if_neg,In.read h1 h2 at' h k (by omega)];intro e;rw[uH (by omega)]at e;have hh:=h2 ws[k] (ey _);exact h (by omega)
theorem DS.In.read{D:DS}(h:Wal.DS.In D){at':Int}(h2: ¬(0≤at'∧at'<2048)):D.read at'=zs:=Wal.In.read h.1 h.2 at' h2 _ (aI _)
theorem H4(number place:Int):fp zs number place=none:=nR (by decide)
theorem xY{rd:Int→ix}{number at' all:Int}: ∀(m:Nat) {b:List UInt8},lD rd number at' all m=some b→∀k,k<m→∃x,fp (rd (at'+k)) number k=some (x,all)
 |0,_,_,k,hk=>by omega
 |m+1,b,h,k,hk=>by
  simp only[lD]at h;split at h
  · cases h
  · rename_i b' hb
    split at h
    · cases h
    · rename_i x same hx
      split at h
      · rename_i hs
        by_cases e:k=m
        · subst e;exact⟨x,by rw[hx,hs]⟩
        · exact xY m hb k (by omega)
      · cases h
theorem kD{rd:Int→ix}{number at' all:Int}{b:List UInt8}(hl:(rd at').length=64)(h:fS rd number at'=some (b,all)):0<all∧all≤255∧∀k:Nat,(k:Int)<all→∃x,fp (rd (at'+k)) number k=some (x,all):=by
 unfold fS at h;split at h
 · cases h
 · rename_i x al hp
   obtain⟨f1,f2,_⟩:=pQ hl hp;obtain⟨c,hc,e⟩:=Option.map_eq_some_iff.1 h;injection e with e1 e2
   subst e1;subst e2;exact⟨f1,f2,λk hk=>xY _ hc k (by omega)⟩
theorem pK{D:DS}(hI:Wal.DS.In D)(hD:D.Ok){number at' all:Int}{b:List UInt8}(h0:0≤at')(h:fS D.read number at'=some (b,all)):at'+all≤2048:=by
 obtain⟨f1,f2,f3⟩:=kD (mN hD _) h;obtain⟨x,hx⟩:=f3 (all-1).toNat (by omega)
 by_cases q:at'+all≤2048
 · exact q
 · rw[DS.In.read hI (by omega),H4]at hx;cases hx
theorem rl{rd:Int→ix}{f:Nat}{cnt used:Int}(h:fS rd (cnt+1) used=none):gm rd f cnt used=([],used):=by
 cases f with
 |zero=>rfl
 |succ f=>simp only[gm,h]
theorem Bg{rd:Int→ix}{f:Nat}{cnt used all:Int}{b:List UInt8}(h:fS rd (cnt+1) used=some (b,all)):gm rd (f+1) cnt used=(b::(gm rd f (cnt+1) (used+all)).1,(gm rd f (cnt+1) (used+all)).2):=by simp only[gm,h]
def Scan(D:DS)(f:Nat)(rs:List (List UInt8))(used:Int):Prop:=
 gm D.read iF 0 0=(rs++(gm D.read f rs.length used).1,(gm D.read f rs.length used).2)∧0≤used∧used≤2048∧2049≤(f:Int)+used∧(rs.length:Int)≤used
theorem Scan.start(D:DS):Scan D iF [] 0:=by
 refine⟨?_,by omega,by omega,by rw[qU];omega,by simp⟩;have e:((([]:List (List UInt8)).length:Nat):Int)=0:=rfl;rw[bb,e]
theorem Scan.next{D:DS}(hI:Wal.DS.In D)(hD:D.Ok){f:Nat}{rs:List (List UInt8)}{used all:Int}{b:List UInt8}(h:Scan D f rs used)(h2:fS D.read ((rs.length:Int)+1) used=some (b,all)): ∃f',f=f'+1∧Scan D f' (rs++[b]) (used+all):=by
 obtain⟨h1,h0,h3,h4,h5⟩:=h;have hr:=pK hI hD h0 h2;have hf:=(kD (mN hD _) h2).1;obtain⟨f',rfl⟩: ∃f',f=f'+1:=⟨f-1,by omega⟩;refine⟨f',rfl,?_,by omega,by omega,by omega,by simp;omega⟩;rw[h1,Bg h2];simp
theorem Scan.stop{D:DS}{f:Nat}{rs:List (List UInt8)}{used:Int}(h:Scan D f rs used)(h2:fS D.read ((rs.length:Int)+1) used=none):gm D.read iF 0 0=(rs,used):=by
 rw[h.1,rl h2];simp
theorem Cn{D:DS}{at':Int}(h:2048≤at'):gK (2048-at').toNat at' D=(0,D):=by rw[show(2048-at').toNat=0 by omega];rfl
theorem Hg{D:DS}{at':Int}(h:at'<2048)(h2:D.read at'=zs):gK (2048-at').toNat at' D=gK (2048- (at'+1)).toNat (at'+1) D:=by
 rw[show(2048-at').toNat=(2048- (at'+1)).toNat+1 by omega,gK,if_pos h2]
theorem Lh{D:DS}{at':Int}(h:at'<2048)(h2:D.read at'≠zs)(h3:(D.write at' []).1=0):gK (2048-at').toNat at' D=gK (2048- (at'+1)).toNat (at'+1) (D.write at' []).2:=by
 rw[show(2048-at').toNat=(2048- (at'+1)).toNat+1 by omega,gK,if_neg h2,if_pos h3]
theorem Hh{D:DS}{at':Int}(h:at'<2048)(h2:D.read at'≠zs)(h3:(D.write at' []).1≠0):gK (2048-at').toNat at' D=D.write at' []:=by
 rw[show(2048-at').toNat=(2048- (at'+1)).toNat+1 by omega,gK,if_neg h2,if_neg h3]
theorem xR{D D':DS}{rs:List (List UInt8)}{used e:Int}(h:gm D.read iF 0 0=(rs,used))(h2:gK (2048-used).toNat used D=(e,D'))(h3:e≠0):bJ D=⟨e,[],0,D'⟩:=by
 simp only[bJ,h,h2];rw[if_pos h3]
theorem Fm{D D':DS}{rs:List (List UInt8)}{used:Int}(h:gm D.read iF 0 0=(rs,used))(h2:gK (2048-used).toNat used D=(0,D'))(h3:D'.sync.1≠0):bJ D=⟨D'.sync.1,[],0,D'.sync.2⟩:=by
 simp only[bJ,h,h2,ne_eq,not_true_eq_false,if_false];rw[if_pos h3]
theorem Bu{D D':DS}{rs:List (List UInt8)}{used:Int}(h:gm D.read iF 0 0=(rs,used))(h2:gK (2048-used).toNat used D=(0,D'))(h3:D'.sync.1=0):bJ D=⟨0,rs,used,D'.sync.2⟩:=by
 simp only[bJ,h,h2,ne_eq,not_true_eq_false,if_false];rw[if_neg (by simp[h3])]
def gf:List ix→Int→DS→Int×DS
 | [],_,D=>(0,D)
 |s::ss,at',D=>if(D.write at' s).1=0 then gf ss (at'+1) (D.write at' s).2 else D.write at' s
structure PutR where
 err:Int
 cnt:Nat
 used:Int
 D:DS
def lQ(D:DS)(cnt:Nat)(used:Int)(bs:List UInt8):PutR:=
 if 3000<bs.length then⟨2,cnt,used,D⟩
 else if(be bs.length:Int)>2048-used then⟨3,cnt,used,D⟩
 else
  let w:=gf (bl ((cnt+1:Nat):Int) bs) used D
  if w.1≠0 then⟨w.1,cnt,used,w.2⟩else if w.2.sync.1≠0 then⟨w.2.sync.1,cnt,used,w.2.sync.2⟩else⟨0,cnt+1,used+be bs.length,w.2.sync.2⟩
theorem Ck{ss:List ix}{at':Int}{D:DS}{k:Nat}(hk:k<ss.length)(h:(D.write (at'+k) ss[k]).1=0):gf (ss.drop k) (at'+k) D=gf (ss.drop (k+1)) (at'+(k+1:Nat)) (D.write (at'+k) ss[k]).2:=by
 rw[dG hk,gf,if_pos h];congr 1;omega
theorem Cl{ss:List ix}{at':Int}{D:DS}{k:Nat}(hk:k<ss.length)(h:(D.write (at'+k) ss[k]).1≠0):gf (ss.drop k) (at'+k) D=D.write (at'+k) ss[k]:=by
 rw[dG hk,gf,if_neg h]
section
variable {D D':DS} {cnt:Nat} {used:Int} {bs:List UInt8}
theorem JF(h:3000<bs.length):lQ D cnt used bs=⟨2,cnt,used,D⟩:=by rw[lQ,if_pos h]
theorem Dg(h: ¬3000<bs.length)(h2:(be bs.length:Int)>2048-used):lQ D cnt used bs=⟨3,cnt,used,D⟩:=by rw[lQ,if_neg h,if_pos h2]
theorem zX{e:Int}(h: ¬3000<bs.length)(h2: ¬(be bs.length:Int)>2048-used)(h3:gf (bl ((cnt+1:Nat):Int) bs) used D=(e,D'))(h4:e≠0):lQ D cnt used bs=⟨e,cnt,used,D'⟩:=by
 rw[lQ,if_neg h,if_neg h2];simp only[h3];rw[if_pos h4]
theorem HW(h: ¬3000<bs.length)(h2: ¬(be bs.length:Int)>2048-used)(h3:gf (bl ((cnt+1:Nat):Int) bs) used D=(0,D'))(h4:D'.sync.1≠0):lQ D cnt used bs=⟨D'.sync.1,cnt,used,D'.sync.2⟩:=by
 rw[lQ,if_neg h,if_neg h2];simp only[h3,ne_eq,not_true_eq_false,if_false];rw[if_pos h4]
theorem put_ok(h: ¬3000<bs.length)(h2: ¬(be bs.length:Int)>2048-used)(h3:gf (bl ((cnt+1:Nat):Int) bs) used D=(0,D'))(h4:D'.sync.1=0):lQ D cnt used bs=⟨0,cnt+1,used+be bs.length,D'.sync.2⟩:=by
 rw[lQ,if_neg h,if_neg h2];simp only[h3,ne_eq,not_true_eq_false,if_false];rw[if_neg (by simp[h4])]
end
end Wal
end

section
namespace Go.Proofs.YtjblgopghhgflaaGreat
open Go Leg Codec Api Dsk Wal
abbrev GY(lg d:Nat)(cnt used:Int):HP:=am lg [.pointer (some ⟨d,0,none⟩), .int .i64 cnt, .int .i64 used] 210
abbrev Qi(v:Value)(ls:List (List UInt8)):HP:=m4 93 5 v ls
theorem CV(d:Nat)(D:DS)(number at':Int)(hD:D.Ok)(hb:D.ws.length≤1000000000)(ha:0≤at'∧at'≤1000000):
 DT 129 #[(.pointer (some ⟨d,0,none⟩)),(.int .i64 (number)),(.int .i64 (at'))] T0 [dk d (D)] (dB (λv H=>(fS D.read number at'=none∧v= .tuple #[.slice none 0 0, .int .i64 0, .bool false]∧H=[dk d D])∨∃b all u,fS D.read number at'=some (b,all)∧v= .tuple #[u, .int .i64 all, .bool true]∧H=[hY u b 5,dk d D])):=by
 refine BD 56 Tryz.func129 rfl rfl rfl λw0 F hF=>sr λ_ J1=>P3 ?_
 refine nx J1 (sr λ_ J2=>P2 ?_);refine CR JX (BU d (D) at' hD hb) ID λvR HR hR=>?_
 obtain⟨hv,rfl⟩:=hR;subst hv;refine PS ?_;refine CR MU (xO ((D).read at') number 0 (mN hD _)) ID λvR HR hR=>?_
 rcases hR with⟨hp,rfl,rfl⟩| ⟨b,all,u,hp,rfl,rfl⟩
 refine P4 ?_;refine P3 ?_;refine nx J2 (aa λ_ J3=>sr λ_ J4=>PS ?_);refine PS ?_;refine nx J4 (CY (sr λ_ J5=>P3 ?_));exact nx J5 (aj (af (WK [0] (oa rfl rfl rfl rfl (.inl ⟨rJ hp,rfl,rfl⟩)))));refine TL.subLen 0 rfl rfl (λhul hu=>?_);have hpf:=pQ (mN hD _) hp;refine P4 ?_;refine P3 ?_;refine nx J2 (aa λ_ J6=>sr λ_ J7=>PS ?_);refine PS ?_;refine nx J7 (CN (qx J6 (aa λ_ J8=>sr λ_ J9=>PS ?_)));refine nx J9 (aq ?_)
 refine bA (α:=(Nat)×(List UInt8)×(Value)) (λ⟨k,c,w⟩=>1≤k∧k≤all.toNat∧lD D.read number at' all k=some c∧c.length≤k*52∧w.oneCell'=true) (λ⟨k,c,w⟩=>[(0,(.pointer (some ⟨d,0,none⟩))),(1,(.int .i64 (number))),(2,(.int .i64 (at'))),(9,w),(10,(.int .i64 (all))),(12,(.int .i64 (((k:Nat):Int))))]) (λ⟨k,c,w⟩=>[hY w (c) 5,dk d (D)]) (λ⟨k,c,w⟩=>all.toNat-k) (1,b,u)
  ⟨aI _,by omega,Ip hp,by omega,hu⟩ SB
  (λ_ s=>s) (λ⟨k,c,w⟩ hinv=>?_)
 obtain⟨hk1,hk2,hk3,hk4,hw⟩:=hinv;refine aa λ_ J10=>sr λ_ J11=>P3 ?_
 refine ao ?_ ?_<;>intro h29;refine nx J11 (CY (qx J10 (aa λ_ J12=>aq (sr λ_ J13=>P3 ?_))));refine AD ?_;refine CR JX (BU d (D) (at'+((k:Nat):Int)) hD hb) (SM [1]) λvR HR hR=>?_
 obtain⟨hv,rfl⟩:=hR;subst hv;refine P2 ?_;refine CR MU (xO ((D).read (at'+((k:Nat):Int))) number ((k:Nat):Int) (mN hD _)) ID λvR HR hR=>?_
 rcases hR with⟨hp2,rfl,rfl⟩| ⟨b2,all2,u2,hp2,rfl,rfl⟩
 refine P4 ?_;refine P3 ?_;refine nx J13 (aa λ_ J14=>sr λ_ J15=>PS ?_);refine PS ?_;refine PS ?_
 iterate 3 refine UT ?_
 refine PS ?_;refine nx J15 (CY (sr λ_ J16=>P3 ?_));refine nx J16 (aj (af (aL (af (af (aL (af (WK [0] (oa rfl rfl rfl rfl ?_)))))))));exact .inl ⟨rI hp (xX (.inl hp2) _ (by omega)),rfl,rfl⟩;refine TL.subLen 0 rfl rfl (λhul2 hu2=>?_);have hpf2:=pQ (mN hD _) hp2;refine P4 ?_;refine P3 ?_;refine nx J13 (aa λ_ J17=>sr λ_ J18=>PS ?_);refine PS ?_;refine P4 ?_;refine ao ?_ ?_<;>intro h49;refine PS ?_;refine nx J18 (CY (sr λ_ J19=>P3 ?_));refine nx J19 (aj (af (aL (af (af (aL (af (WK [1] (oa rfl rfl rfl rfl ?_)))))))));exact .inl ⟨rI hp (xX (.inr ⟨b2,all2,hp2,h49⟩) _ (by omega)),rfl,rfl⟩;refine PS ?_;refine nx J18 (CN (qx J17 (ae (P2 ?_))));refine TL.appendS (k:=2) (news:=b2) (bs':=c++b2) (ab rfl) rfl rfl rfl ic Ao rfl rfl rfl rfl (λ_ s=>Src.sub 0 rfl rfl s) (by omega) rfl (λv53 ov53=>PS ?_);refine au (ag (ac J12 (ae (PS ?_))));refine AD ?_;refine PS ?_;refine au ?_
 exact aK ((k+1,c++b2,v53):(Nat)×(List UInt8)×(Value)) ⟨by omega,by omega,xZ hk3 (by rw[hp2,show all2=all by omega]),by rw[ai];omega,ov53⟩ (by show all.toNat- (k+1)<all.toNat-k;omega)
  SB
  (λ_ s=>ak [2,1] rfl s)
 refine nx J11 (CN (aX (aA (aA (bu (ac J8 (sr λ_ J20=>?_)))))))
 iterate 5 refine PS ?_
 refine nx J20 (aj (WK [0,0] (oa rfl rfl rfl rfl ?_)));exact .inr ⟨c,all,w,tx hp (by rw[show all.toNat=k by omega];exact hk3),rfl,rfl⟩
theorem HL(lg d:Nat)(cnt used:Int)(h:0≤used∧used≤2048):
 DT 177 #[(.pointer (some ⟨lg,0,none⟩))] T0 [am lg [(.pointer (some ⟨d,0,none⟩)),(.int .i64 (cnt)),(.int .i64 (used))] 210] (RI (.int .i64 (2048-used)) [GY lg d cnt used]):=by
 refine BD 8 Tryz.func177 rfl rfl rfl λw0 F hF=>sr λ_ J1=>PS ?_
 refine nx J1 (sr λ_ J2=>P2 ?_);refine FA 2 rF aQ ?_;refine LA 0 Y3 ?_;refine tp (jC rfl rfl rfl (bX (by omega) (by omega))) ?_;refine PS ?_;exact nx J2 (aj (WK [0] (aw rfl rfl ⟨rfl,rfl⟩)))
theorem Cu(lg d cnt:Nat)(used:Int)(x:Value)(bs:List UInt8)(D:DS)(hD:D.Ok)(hb:D.ws.length≤1000000)(hu:0≤used∧used≤2048)(hc:cnt≤1000000):
 DT 166 #[(.pointer (some ⟨lg,0,none⟩)),x] (IsW x bs) [am lg [(.pointer (some ⟨d,0,none⟩)),(.int .i64 (((cnt:Nat):Int))),(.int .i64 (used))] 210,dk d (D)] (RI (.int .i64 (lQ D cnt used bs).err) [GY lg d (((lQ D cnt used bs).cnt:Nat):Int) (lQ D cnt used bs).used,dk d (lQ D cnt used bs).D]):=by
 refine BD 72 Tryz.func166 rfl rfl rfl λw0 F hF=>sr λ_ J1=>PS ?_
 refine nx J1 (aa λ_ J2=>sr λ_ J3=>PS ?_);refine tp (ef rfl ic rfl hF.len) ?_;refine PS ?_;refine ao ?_ ?_<;>intro h12;refine nx J3 (CY (sr λ_ J4=>PS ?_));refine nx J4 (aj (af (WK [0,0] (aw rfl rfl ?_))));rw[JF (by omega)];exact⟨rfl,rfl⟩;refine nx J3 (CN (qx J2 (sr λ_ J5=>PS ?_)));refine tp (ef rfl ic rfl hF.len) ?_;refine CE MM (vQ bs.length (by omega)) ID ?_;refine PS ?_;refine nx J5 (aa λ_ J6=>sr λ_ J7=>P2 ?_);refine CE OV (HL lg d ((cnt:Nat):Int) used hu) ID ?_;refine PS ?_;refine ao ?_ ?_<;>intro h19;refine nx J7 (CY (sr λ_ J8=>PS ?_));refine nx J8 (aj (af (WK [0,0] (aw rfl rfl ?_))));rw[Dg (by omega) (by omega)];exact⟨rfl,rfl⟩;refine nx J7 (CN (qx J6 (aa λ_ J9=>sr λ_ J10=>P2 ?_)));refine FA 1 rF aQ ?_;refine LA 0 Y3 ?_;refine tp (Rj (v':=(.int .i64 (((cnt+1:Nat):Int)))) (cL rfl rfl rfl (bX (by omega) (by omega))) rfl) ?_;refine PS ?_;refine CQ OU (Bf x (cnt+1) bs (by omega)) ID (λg d _=>PT hF d) λvR HR hR=>?_
 have hR:=hR;subst hR;change TL _ _ _ _ _ _ _ _ _ [m4 93 5 vR (bl ((cnt+1:Nat):Int) bs),am lg [(.pointer (some ⟨d,0,none⟩)),(.int .i64 (((cnt:Nat):Int))),(.int .i64 (used))] 210,dk d (D)];refine TL.recsLen 0 rfl rfl (λhrl hro=>?_);rw[cE]at hrl;refine tp (ef rfl wB rfl hrl) ?_;refine PS ?_;refine nx J10 (aq ?_)
 refine bA (α:=(Nat)×(DS)) (λ⟨k,D'⟩=>k≤be bs.length∧gf (bl ((cnt+1:Nat):Int) bs) used D=gf ((bl ((cnt+1:Nat):Int) bs).drop k) (used+(k:Nat)) D'∧D'.Ok∧D'.ws.length≤D.ws.length+k) (λ⟨k,D'⟩=>[(0,(.pointer (some ⟨lg,0,none⟩))),(5,(.int .i64 (((be bs.length:Nat):Int)))),(26,vR),(27,(.int .i64 ((((be bs.length):Nat):Int)))),(28,(.int .i64 (((k:Nat):Int))))]) (λ⟨k,D'⟩=>[am lg [(.pointer (some ⟨d,0,none⟩)),(.int .i64 (((cnt:Nat):Int))),(.int .i64 (used))] 210,dk d (D'),m4 93 5 vR (bl ((cnt+1:Nat):Int) bs)]) (λ⟨k,D'⟩=>be bs.length-k) (0,D)
  ⟨aN _,by simp,hD,by omega⟩ SB
  (λ_ s=>aD [1,1,0] rfl s) (λ⟨k,D'⟩ hinv=>?_)
 obtain⟨hk,hwr,hD',hws⟩:=hinv;refine sr λ_ J11=>PS ?_
 refine ao ?_ ?_<;>intro h29;refine cJ (λ_ s=>aD [2] rfl s) (Ng (λus=>?_));change TL _ _ _ _ _ _ _ _ _ [own vR ((bl ((cnt+1:Nat):Int) bs).length) (us) 93 1,eQ us (bl ((cnt+1:Nat):Int) bs) 5,am lg [(.pointer (some ⟨d,0,none⟩)),(.int .i64 (((cnt:Nat):Int))),(.int .i64 (used))] 210,dk d (D')];refine zp (p:=us.length=(bl ((cnt+1:Nat):Int) bs).length*1) (λw m=>m.own_len (i:=0) (lb rfl) rfl) (λhul=>?_);rw[cE,gp]at hul;have hkl:k< (bl ((cnt+1:Nat):Int) bs).length:=by rw[cE];omega
 obtain⟨sk,hsk⟩: ∃x,(bl ((cnt+1:Nat):Int) bs)[k]=x:=⟨_,rfl⟩;refine j5 0 rfl rfl (by omega) (λg cap hv hcap=>nx J11 (aa λ_ J12=>CY (qx J12 (aa λ_ J13=>aq (sr λ_ J14=>PS ?_)))));refine tp (bU (r:=k) hv rfl wB oM rfl rfl (by omega) (by omega) (by omega)) ?_;refine tp (dr (v:=(us.getD k undef)) rfl ic rfl rfl (gC 0 rfl hv rfl) (by simp[List.getD_eq_getElem?_getD,show k<us.length by omega])) ?_;refine P2 ?_;refine nx J14 (aa λ_ J15=>D1 2 dK ?_);refine PD 0 ?_;refine PD 1 ?_;refine FD 2 0 rF p7 ?_;refine LX 3 ut (.pointer (some ⟨d,0,none⟩)) ?_ (hc:=by exact rfl);refine PD 4 ?_;refine PD 5 ?_;refine FD 6 2 rF aQ ?_;refine LX 7 Y3 (.int .i64 (used)) ?_ (hc:=by exact rfl);refine PD 8 ?_;refine ta 9 rfl (cL rfl rfl rfl (bX (by omega) (by omega))) ?_;refine PD 10 ?_;refine AL 11 ?_;refine CQ NH (yw d D' (used+((k:Nat):Int)) (us.getD k undef) sk hD' (by omega)) (SM [3]) (λg d s=>K7 (hsk▸vd 1 hkl rfl rfl g d s)) λvR HR hR=>?_
 obtain⟨hv2,rfl⟩:=hR;subst hv2;refine EN (PD 12 ?_);refine DN (ac J15 (sr λ_ J16=>P2 ?_));refine ao ?_ ?_<;>intro h46;refine nx J16 (CY (sr λ_ J17=>P2 ?_));refine nx J17 (aj (aL (af (af (aL (af (WK [3,0] (aw rfl rfl ?_))))))));have hf:=Cl (D:=D') (at':=used) hkl (by rw[hsk];exact h46);rw[hsk]at hf;rw[zX (by omega) (by omega) (hwr.trans hf) h46];exact⟨rfl,rfl⟩;refine nx J16 (CN (aU (ag (ac J13 (ae (AD ?_))))));refine PS ?_;refine au ?_
 exact aK ((k+1,(D'.write (used+((k:Nat):Int)) sk).2):(Nat)×(DS)) ⟨by omega,by rw[hwr];subst hsk;exact Ck hkl (by simpa using h46),DS.write_ok hD' _ _,by have:=DS.write_ws (D:=D') (at':=used+((k:Nat):Int)) (bs:=sk);omega⟩ (by show be bs.length- (k+1)<be bs.length-k;omega)
  SB
  (λ_ s=>aD [1,1,0] rfl (br (p:=λus:List Value=>[own vR (bl ((cnt+1:Nat):Int) bs).length us 93 1,eQ us (bl ((cnt+1:Nat):Int) bs) 5]) us (ak [1,1,1,0] rfl s)))
 refine nx J11 (aa λ_ J18=>CN (aX (aA (aA (bu (ac J9 (aa λ_ J19=>sr λ_ J20=>P2 ?_)))))));refine FA 0 rF p7 ?_;refine LA 0 ut ?_;refine CR NG (BS d (D') hD') (SM [1]) λvR HR hR=>?_
 obtain⟨hv,rfl⟩:=hR;subst hv;refine PS ?_;refine nx J20 (sr λ_ J21=>P2 ?_);refine ao ?_ ?_<;>intro h55;refine nx J21 (CY (sr λ_ J22=>P2 ?_));refine nx J22 (aj (af (WK [1,0] (aw rfl rfl ?_))));have hf:gf (bl ((cnt+1:Nat):Int) bs) used D=(0,D'):=by rw[hwr,co (by rw[cE];omega)];rfl
 rw[HW (by omega) (by omega) hf h55];exact⟨rfl,rfl⟩;refine nx J21 (CN (qx J19 (sr λ_ J23=>P2 ?_)));refine FA 1 rF aQ ?_;refine LA 1 Y3 ?_;refine AD ?_;refine PS ?_;refine FA 1 rF aQ ?_;refine S0 1 aQ ?_;refine nx J23 (sr λ_ J24=>P2 ?_);refine FA 2 rF aQ ?_;refine LA 1 Y3 ?_;refine PS ?_;refine AD ?_;refine PS ?_;refine FA 2 rF aQ ?_;refine S0 1 aQ ?_;refine nx J24 (sr λ_ J25=>PS ?_);refine nx J25 (aj (WK [1,0] (aw rfl rfl ?_)));have hf:gf (bl ((cnt+1:Nat):Int) bs) used D=(0,D'):=by rw[hwr,co (by rw[cE];omega)];rfl
 rw[put_ok (by omega) (by omega) hf (by simpa using h55)];exact⟨rfl,rfl⟩
theorem Ic(d:Nat)(D:DS)(hD:D.Ok)(hI:Wal.DS.In D)(hb:D.ws.length≤1000000):
 DT 92 #[(.pointer (some ⟨d,0,none⟩))] T0 [dk d (D)] (dB (λv H=>((bJ D).err≠0∧v= .tuple #[.pointer none, .slice none 0 0, .int .i64 (bJ D).err]∧H=[dk d (bJ D).D])∨((bJ D).err=0∧∃lg vr,v= .tuple #[.pointer (some ⟨lg,0,none⟩),vr, .int .i64 0]∧H=[GY lg d (((bJ D).recs.length:Nat):Int) (bJ D).used,Qi vr (bJ D).recs,dk d (bJ D).D]))):=by
 refine BD 80 Tryz.func92 rfl rfl rfl λw0 F hF=>sr λ_ J1=>P3 ?_
 refine nx J1 (aa λ_ J2=>sr λ_ J3=>PS ?_);refine tp (jE rfl ut rfl rfl) ?_;refine nx J3 (CN (qx J2 (sr λ_ J4=>PS ?_)));refine BV #[(.pointer (some ⟨d,0,none⟩)),(.int .i64 0),(.int .i64 0)] ?_;refine XB λb17=>?_
 refine PS ?_;refine nx J4 (sr λ_ J5=>PS ?_);refine nx J5 (aa λ_ J6=>aq ?_)
 refine bA (α:=(Nat)×(List (List UInt8))×(Int)×(Value)) (λ⟨f,rs,used,vr⟩=>Scan D f rs used∧vr.oneCell'=true) (λ⟨f,rs,used,vr⟩=>[(0,(.pointer (some ⟨d,0,none⟩))),(2,(.pointer none)),(3,(.slice none 0 0)),(4,(.int .i64 0)),(5,(.pointer (some ⟨b17,0,none⟩))),(6,vr)]) (λ⟨f,rs,used,vr⟩=>[am b17 [(.pointer (some ⟨d,0,none⟩)),(.int .i64 (((rs.length:Nat):Int))),(.int .i64 (used))] 210,dk d (D),m4 93 5 vr (rs)]) (λ⟨f,rs,used,vr⟩=>f) (iF,[],0,(.slice none 0 0))
  ⟨Scan.start D,rfl⟩ SB
  (λ_ s=>eG (List.Perm.trans (List.Perm.swap _ _ _) (List.Perm.cons _ (List.Perm.swap _ _ _))) (vG 93 5 s)) (λ⟨f,rs,used,vr⟩ hinv=>?_)
 obtain⟨hsc,hvr⟩:=hinv;obtain⟨hs1,hs2,hs3,hs4,hs5⟩:=id hsc;refine aq (aa λ_ J7=>D1 0 dK ?_);refine PD 0 ?_;refine PD 1 ?_;refine PD 2 ?_;refine FD 3 1 rF aQ ?_;refine LX 4 Y3 (.int .i64 (((rs.length:Nat):Int))) ?_ (hc:=by exact rfl);refine ta 5 rfl (cL rfl rfl rfl (bX (by omega) (by omega))) ?_;refine PD 6 ?_;refine PD 7 ?_;refine FD 8 2 rF aQ ?_;refine LX 9 Y3 (.int .i64 (used)) ?_ (hc:=by exact rfl);refine AL 10 ?_;refine CR Pk (CV d D (((rs.length:Nat):Int)+1) used hD (by omega) (by omega)) (SM [1]) λvR HR hR=>?_
 rcases hR with⟨hst,rfl,rfl⟩| ⟨b,all,u,hst,rfl,rfl⟩
 have hss:=Scan.stop hsc hst;refine EN (PD 11 ?_);refine PD 12 ?_;refine PD 13 ?_;refine PD 14 ?_;refine PD 15 ?_;refine PD 16 ?_;refine PD 17 ?_;refine DN (ac J7 (aa λ_ J8=>sr λ_ J9=>PS ?_));refine PS ?_;refine nx J9 (CY (aX (aA (TE.miss (by decide) (aA (bu (ac J6 (aa λ_ J10=>sr λ_ J11=>P2 ?_))))))));refine FA 2 rF aQ ?_;refine LA 1 Y3 ?_;refine PS ?_;refine nx J11 (aq ?_)
 refine bA (α:=(Int)×(DS)) (λ⟨at',D'⟩=>used≤at'∧at'≤2048∧gK (2048-used).toNat used D=gK (2048-at').toNat at' D'∧D'.Ok∧D'.ws.length≤D.ws.length+(at'-used).toNat) (λ⟨at',D'⟩=>[(0,(.pointer (some ⟨d,0,none⟩))),(5,(.pointer (some ⟨b17,0,none⟩))),(6,vr),(10,(.int .i64 (at')))]) (λ⟨at',D'⟩=>[am b17 [(.pointer (some ⟨d,0,none⟩)),(.int .i64 (((rs.length:Nat):Int))),(.int .i64 (used))] 210,dk d (D'),m4 93 5 vr (rs)]) (λ⟨at',D'⟩=>(2048-at').toNat) (used,D)
  ⟨by omega,by omega,rfl,hD,by omega⟩ SB
  (λ_ s=>ak [1,0,0] rfl s) (λ⟨at',D'⟩ hinv=>?_)
 obtain⟨ha1,ha2,hwi,hD',hws⟩:=hinv;refine aa λ_ J12=>sr λ_ J13=>P2 ?_
 refine ao ?_ ?_<;>intro h59;refine nx J13 (CY (qx J12 (aa λ_ J14=>aq (aa λ_ J15=>sr λ_ J16=>P2 ?_))));refine CR JX (BU d (D') at' hD' (by omega)) (SM [1]) λvR HR hR=>?_
 obtain⟨hv,rfl⟩:=hR;subst hv;refine BV ((eB zs).toArray) ?_;refine tp (PV.eqlBy (a:=((D').read at')) (b:=zs) (m:=2) ME MD rfl MF MH MG (mN hD' _) (by decide) rfl rfl rfl) ?_;refine ao ?_ ?_<;>intro h66;refine nx J16 (CY (aX (aA (bu (ac J14 (ae (PS ?_)))))));refine AD ?_;refine PS ?_;refine au ?_
 exact aK ((at'+1,D'):(Int)×(DS)) ⟨by omega,by omega,by rw[hwi];exact Hg (by omega) h66,hD',by omega⟩ (by show(2048- (at'+1)).toNat< (2048-at').toNat;omega)
  SB
  (λ_ s=>ak [1,0,0] rfl s)
 refine nx J16 (CN (qx J15 (sr λ_ J17=>P2 ?_)));refine CQ NH (yw d (D') at' (.slice none 0 0) ([]) hD' (by omega)) ID (λ_ _ _=> .inl (.inl ⟨rfl,rfl⟩)) λvR HR hR=>?_
 obtain⟨hv,rfl⟩:=hR;subst hv;refine PS ?_;refine nx J17 (sr λ_ J18=>P2 ?_);refine ao ?_ ?_<;>intro h71;refine nx J18 (CY (sr λ_ J19=>P4 ?_));refine nx J19 (aj (aL (af (af (aL (af (WK [0] (oa rfl rfl rfl rfl ?_))))))));rw[xR hss (hwi.trans (Hh (by omega) h66 h71)) h71];exact .inl ⟨h71,rfl,rfl⟩;refine nx J18 (CN (aU (ag (ac J14 (ae (PS ?_))))));refine AD ?_;refine PS ?_;refine au ?_
 exact aK ((at'+1,(D'.write at' []).2):(Int)×(DS)) ⟨by omega,by omega,by rw[hwi];exact Lh (by omega) h66 (by simpa using h71),DS.write_ok hD' _ _,by have:=DS.write_ws (D:=D') (at':=at') (bs:=[]);omega⟩ (by show(2048- (at'+1)).toNat< (2048-at').toNat;omega)
  SB
  (λ_ s=>ak [1,0,0] rfl s)
 refine nx J13 (CN (aX (aA (aA (bu (ac J10 (aa λ_ J20=>sr λ_ J21=>PS ?_)))))));refine CR NG (BS d (D') hD') (SM [1]) λvR HR hR=>?_
 obtain⟨hv,rfl⟩:=hR;subst hv;refine PS ?_;refine nx J21 (sr λ_ J22=>P2 ?_);refine ao ?_ ?_<;>intro h76;refine nx J22 (CY (sr λ_ J23=>P4 ?_));refine nx J23 (aj (af (WK [0] (oa rfl rfl rfl rfl ?_))));rw[Fm hss (hwi.trans (Cn (by omega))) h76];exact .inl ⟨h76,rfl,rfl⟩;refine nx J22 (CN (qx J20 (sr λ_ J24=>?_)))
 iterate 5 refine PS ?_
 refine nx J24 (aj (WK [1,1,0] (oa rfl rfl rfl rfl ?_)));have h76':D'.sync.1=0:=by omega
 rw[Bu hss (hwi.trans (Cn (by omega))) h76'];exact .inr ⟨rfl,b17,vr,rfl,rfl⟩;have hro:=pK hI hD (by omega) hst;have hfa:=(kD (mN hD _) hst).1;obtain⟨f',rfl,hsn⟩:=Scan.next hI hD hsc hst;refine TL.subLen 0 rfl rfl (λhul hu=>EN (PD 11 ?_));refine PD 12 ?_;refine PD 13 ?_;refine PD 14 ?_;refine PD 15 ?_;refine PD 16 ?_;refine PD 17 ?_;refine DN (ac J7 (aa λ_ J25=>sr λ_ J26=>PS ?_));refine PS ?_;refine nx J26 (CN (qx J25 (sr λ_ J27=>P2 ?_)));refine aW (cells:=#[u]) (ab rfl) rfl rfl rfl wB IE rfl rfl rfl (tV hu (by simp)) (λb37=>?_);change TL _ _ _ _ _ _ _ _ _ [am b37 [u] 93,hY u (b) 5,dk d (D),am b17 [(.pointer (some ⟨d,0,none⟩)),(.int .i64 (((rs.length:Nat):Int))),(.int .i64 (used))] 210,m4 93 5 vr (rs)];refine cJ (λ_ s=>aD [4] rfl s) (Ng (λus38=>cS (k:=0) (m:=1) (news:=[u]) (nn':=(rs).length+1) (xs':=us38++[u]) (ab rfl) rfl rfl rfl wB IE rfl rfl rfl rfl rfl rfl (λ_ _=>kj rfl (RO 2) rfl) (List.forall_mem_cons.2 ⟨hu,λ_ h=>by cases h⟩) (by simp only[maxLen];omega) (by omega) rfl rfl (λv38 ov38=>?_)));change TL _ _ _ _ _ _ _ _ _ [own v38 ((rs).length+1) (us38++[u]) 93 1,eQ us38 (rs) 5,am b37 [u] 93,hY u (b) 5,dk d (D),am b17 [(.pointer (some ⟨d,0,none⟩)),(.int .i64 (((rs.length:Nat):Int))),(.int .i64 (used))] 210]
 refine cJ (H':=[own v38 ((rs).length+1) (us38++[u]) 93 1,eQ us38 (rs) 5,hY u (b) 5,am b37 [u] 93,dk d (D),am b17 [(.pointer (some ⟨d,0,none⟩)),(.int .i64 (((rs.length:Nat):Int))),(.int .i64 (used))] 210]) (λ_ s=>aD [0,0,1] rfl s) (cJ (λ_ s=>vI s) (PS ?_));refine nx J27 (sr λ_ J28=>P2 ?_);refine FA 1 rF aQ ?_;refine LA 3 Y3 ?_;refine tp (Rj (v':=(.int .i64 ((((rs++[b]).length:Nat):Int)))) (cL rfl rfl rfl (bX (by omega) (by omega))) (congrArg (Value.int .i64) (by simp))) ?_;refine PS ?_;refine FA 1 rF aQ ?_;refine S0 3 aQ ?_;refine nx J28 (ae (P2 ?_));refine FA 2 rF aQ ?_;refine LA 3 Y3 ?_;refine PS ?_;refine AD ?_;refine PS ?_;refine FA 2 rF aQ ?_;refine S0 3 aQ ?_;refine au (ag ?_)
 exact aK ((f',rs++[b],used+all,v38):(Nat)×(List (List UInt8))×(Int)×(Value)) ⟨hsn,ov38⟩ (Nat.lt_succ_self _)
  SB
  (λ_ s=>ak [3,2,0] rfl s)
end Go.Proofs.YtjblgopghhgflaaGreat
end

section
namespace Wal
open Go Leg Codec Api Dsk
theorem C0(s ws:fK)(j:Int): ∀k,fa (DE s ws k) j=jb s ws j k
 |0=>rfl
 |k+1=>by
  rw[DE,jb,lw,C0 s ws j k]
  by_cases h:j=(kY ws k).1
  · rw[if_pos h,if_pos h.symm]
  · rw[if_neg h,if_neg (λq=>h q.symm)]
theorem Jd{ws x:fK}{k:Nat}(h:k<ws.length):kY (ws++x) k=kY ws k:=by simp[kY,List.getD_eq_getElem?_getD,List.getElem?_append_left h]
theorem xH{s ws x:fK}{j:Int}: ∀k,k≤ws.length→jb s (ws++x) j k=jb s ws j k
 |0,_=>rfl
 |k+1,h=>by rw[jb,jb,Jd (by omega),xH k (by omega)]
theorem HU(s ws:fK)(p:Int×ix)(j:Int):jb s (ws++[p]) j (ws++[p]).length=if j=p.1 then p.2 else jb s ws j ws.length:=by
 rw[ai,ax,aE,bn,jb,xH _ (aI _)];have:kY (ws++[p]) ws.length=p:=by simp[kY,List.getD_eq_getElem?_getD]
 rw[this]
 by_cases h:j=p.1
 · rw[if_pos h,if_pos h.symm]
 · rw[if_neg h,if_neg (λq=>h q.symm)]
def uW(D:DS)(at':Int)(bs:List UInt8):DS:= {D with ws:=D.ws++[(at',eV bs)],lf:=if D.ar=true then D.lf-1 else D.lf,dn:=false}
theorem lZ{D:DS}{at':Int}{bs:List UInt8}(h1:0≤at'∧at'<2048)(h2:bs.length≤64)(h3:D.dn=false)(h4:D.ar=false∨0<D.lf):D.write at' bs=(0,uW D at' bs):=by
 rw[DS.write,if_neg (by omega),if_neg]
 · rfl
 · rintro (h| ⟨h,h5⟩)
   · rw[h3]at h;cases h
   · rcases h4 with h4|h4
     · rw[h4]at h;cases h
     · omega
theorem rU{D:DS}{at':Int}{bs:List UInt8}(h1:0≤at'∧at'<2048)(h2:bs.length≤64)(h4:D.ar=true∧D.lf=0):D.write at' bs=(4,{D with dn:=true}):=by
 rw[DS.write,if_neg (by omega),if_pos (.inr h4)]
theorem uV(D:DS)(at':Int)(bs:List UInt8)(j:Int):(uW D at' bs).read j=if j=at' then eV bs else D.read j:=HU _ _ _ _
theorem wL{D:DS}(h:D.Ok){at':Int}{bs:List UInt8}(h2:bs.length≤64)(h4:D.ar=false∨0<D.lf):(uW D at' bs).Ok:=by
 refine⟨h.s,h.ws.add _ (dO h2),?_⟩;have:=h.lf;show 0≤(if D.ar=true then D.lf-1 else D.lf)∧(if D.ar=true then D.lf-1 else D.lf)≤9223372036854775807;split
 · rename_i h5
   rcases h4 with h4|h4
   · rw[h4]at h5;cases h5
   · omega
 · exact this
theorem wM{D:DS}(h:Wal.DS.In D){at':Int}{bs:List UInt8}(h1:0≤at'∧at'<2048):Wal.DS.In (uW D at' bs):=⟨h.1,λp hp=>by
 rcases bS.1 hp with hp|hp
 · exact h.2 p hp
 · simp only[bR]at hp;subst hp;exact h1⟩
theorem In.put{s:fK}(h:In s){k:Int}{v:ix}(h1:0≤k∧k<2048):In (pa s k v):=by
 induction s with
 |nil=>intro p hp;simp only[pa,bR]at hp;subst hp;exact h1
 |cons p s ih=>
  obtain⟨a,b⟩:=p;intro q hq;simp only[pa]at hq;split at hq
  · rcases cA.1 hq with rfl|hq
    · exact h (a,b) (by simp)
    · exact h q (by simp[hq])
  · rcases cA.1 hq with rfl|hq
    · exact h (a,b) (by simp)
    · exact ih (λq hq=>h q (by simp[hq])) q hq
theorem In.lay{s ws:fK}(h:In s)(hw:In ws): ∀k,k≤ws.length→In (DE s ws k)
 |0,_=>h
 |k+1,hk=>by
  have:=hw (kY ws k) (by rw[uH (by omega)];exact ey _);exact(In.lay h hw k (by omega)).put this
theorem In.crash{mask torn:Int}{c:Nat}{s ws:fK}(h:In s)(hw:In ws): ∀k,k≤ws.length→In (gO mask torn c s ws k)
 |0,_=>h
 |k+1,hk=>by
  have h1:=hw (kY ws k) (by rw[uH (by omega)];exact ey _);have ih:=In.crash (mask:=mask) (torn:=torn) (c:=c) h hw k (by omega);simp only[gO,kh];split
  · exact ih.put h1
  · split
    · exact ih.put h1
    · exact ih
theorem In.nil:In []:=λ_ h=>absurd h (by simp)
abbrev Mz:= @In.nil
structure Calm(D:DS):Prop where
 ok:D.Ok
 inn:Wal.DS.In D
 ar:D.ar=false
 dn:D.dn=false
theorem Calm.new:Calm DS.new:=⟨DS.new_ok,⟨Mz,Mz⟩,rfl,rfl⟩
theorem Calm.crash{D:DS}(h:D.Ok)(hi:Wal.DS.In D)(mask torn n:Int):Calm (D.crash mask torn n):=⟨DS.crash_ok h _ _ _,⟨hi.1.crash hi.2 _ (aI _),Mz⟩,rfl,rfl⟩
abbrev P6:= @Calm.crash
theorem rj{D:DS}(h:D.dn=false)(j:Int):D.sync.2.read j=D.read j:=by
 unfold DS.sync;rw[if_neg (by simp[h])];exact C0 _ _ _ _
theorem l5{D:DS}(h:D.dn=false):D.sync.1=0∧D.sync.2.ws=[]∧D.sync.2.dn=false∧D.sync.2.ar=D.ar∧D.sync.2.lf=D.lf:=by
 unfold DS.sync;rw[if_neg (by simp[h])];exact⟨rfl,rfl,h,rfl,rfl⟩
theorem wJ{D:DS}(h:Wal.DS.In D):Wal.DS.In D.sync.2:=by
 unfold DS.sync;split
 · exact h
 · exact⟨h.1.lay h.2 _ (aI _),Mz⟩
theorem Calm.sync{D:DS}(h:Calm D):Calm D.sync.2:=by
 obtain⟨_,_,h3,h4,_⟩:=l5 h.dn;exact⟨PY h.ok,wJ h.inn,h4.trans h.ar,h3⟩
theorem Calm.put{D:DS}(h:Calm D){at':Int}{bs:List UInt8}(h1:0≤at'∧at'<2048)(h2:bs.length≤64):Calm (uW D at' bs):=⟨wL h.ok h2 (.inl h.ar),wM h.inn h1,h.ar,rfl⟩
theorem xP:eV []=zs:=rfl
theorem uD: ∀(n:Nat) (at':Int) (D:DS),Calm D→0≤at'→at'+n≤2048→∃D',gK n at' D=(0,D')∧Calm D'∧∀j,D'.read j=if at'≤j∧j<at'+n then zs else D.read j
 |0,at',D,h,_,_=>⟨D,rfl,h,λj=>by rw[if_neg (by omega)]⟩
 |n+1,at',D,h,h0,h1=>by
  by_cases hz:D.read at'=zs
  · obtain⟨D',e,c,r⟩:=uD n (at'+1) D h (by omega) (by omega)
    refine⟨D',by rw[gK,if_pos hz,e],c,λj=>?_⟩;rw[r j]
    by_cases q:j=at'
    · subst q;rw[if_neg (by omega),if_pos (by omega),hz]
    · by_cases q2:at'+1≤j∧j<at'+1+n
      · rw[if_pos q2,if_pos (by omega)]
      · rw[if_neg q2,if_neg (by omega)]
  · have hw:=lZ (D:=D) (at':=at') (bs:=[]) (by omega) (by simp) h.dn (.inl h.ar)
    obtain⟨D',e,c,r⟩:=uD n (at'+1) (uW D at' []) (h.put (by omega) (by simp)) (by omega) (by omega);refine⟨D',by rw[gK,if_neg hz,hw,if_pos rfl,e],c,λj=>?_⟩;rw[r j,uV,xP]
    by_cases q:j=at'
    · subst q;rw[if_neg (by omega),if_pos rfl,if_pos (by omega)]
    · rw[if_neg q]
      by_cases q2:at'+1≤j∧j<at'+1+n
      · rw[if_pos q2,if_pos (by omega)]
      · rw[if_neg q2,if_neg (by omega)]
theorem HE{D:DS}(h:Calm D):0≤(gm D.read iF 0 0).2∧(gm D.read iF 0 0).2≤2048∧((gm D.read iF 0 0).1.length:Int)≤(gm D.read iF 0 0).2:=by
 have key: ∀f rs used,Scan D f rs used→∃rs' used',gm D.read iF 0 0=(rs',used')∧0≤used'∧used'≤2048∧(rs'.length:Int)≤used':=by
  intro f
  induction f with
  |zero=>
   intro rs used hs;cases hst:fS D.read ((rs.length:Int)+1) used with
   |none=>exact⟨rs,used,hs.stop hst,hs.2.1,hs.2.2.1,hs.2.2.2.2⟩
   |some p=>obtain⟨b,all⟩:=p;obtain⟨f',e,_⟩:=Scan.next h.inn h.ok hs hst;omega
  |succ f ih=>
   intro rs used hs;cases hst:fS D.read ((rs.length:Int)+1) used with
   |none=>exact⟨rs,used,hs.stop hst,hs.2.1,hs.2.2.1,hs.2.2.2.2⟩
   |some p=>
    obtain⟨b,all⟩:=p;obtain⟨f',e,hs'⟩:=Scan.next h.inn h.ok hs hst;obtain rfl:f=f':=by omega
    exact ih _ _ hs'
 obtain⟨rs,used,e,h1,h2,h3⟩:=key _ _ _ (Scan.start D);rw[e];exact⟨h1,h2,h3⟩
theorem If{D:DS}(h:Calm D): ∃D',bJ D=⟨0,(gm D.read iF 0 0).1,(gm D.read iF 0 0).2,D'⟩∧Calm D'∧D'.ws=[]∧∀j,D'.read j=if(gm D.read iF 0 0).2≤j∧j<2048 then zs else D.read j:=by
 obtain⟨h1,h2,_⟩:=HE h;generalize hr:gm D.read iF 0 0=r at*;obtain⟨rs,used⟩:=r;simp only at h1 h2 ⊢;obtain⟨D',e,c,rd⟩:=uD (2048-used).toNat used D h h1 (by omega);obtain⟨s1,s2,_⟩:=l5 c.dn;refine⟨D'.sync.2,Bu hr e s1,c.sync,s2,λj=>?_⟩;rw[rj c.dn,rd j]
 by_cases q:used≤j∧j<2048
 · rw[if_pos q,if_pos (by omega)]
 · rw[if_neg q,if_neg (by omega)]
def gX:Nat→List (List UInt8)→List ix
 |_,[]=>[]
 |n,b::ls=>bl ((n+1:Nat):Int) b++gX (n+1) ls
def cG(ls:List (List UInt8)):Nat:=(gX 0 ls).length
theorem nq: ∀(a:List (List UInt8)) (n:Nat) (b:List (List UInt8)),gX n (a++b)=gX n a++gX (n+a.length) b
 | [],n,b=>by simp[gX]
 |x::a,n,b=>by
  simp only[kR,gX,nq a (n+1) b,aG,ax];rw[show n+1+a.length=n+(a.length+1)by omega]
theorem As: ∀(ls:List (List UInt8)) (n m:Nat),(gX n ls).length=(gX m ls).length
 | [],_,_=>rfl
 |b::ls,n,m=>by simp only[gX,ai,cE,As ls (n+1) (m+1)]
theorem uO(ls:List (List UInt8))(b:List UInt8):cG (ls++[b])=cG ls+be b.length:=by
 simp[cG,nq,gX,cE]
theorem tA: ∀ls:List (List UInt8),ls.length≤cG ls
 | []=>aI _
 |b::ls=>by
  have h1:=tA ls;have h2:=mu b.length;have h3:=As ls 1 0;simp only[cG,gX,ai,cE,ax,h3]at*;omega
theorem tC{number:Int}{b:List UInt8}{k:Nat}(h:k< (bl number b).length):(bl number b)[k]=m3 number k (be b.length) (gW b k):=by simp[bl]
theorem nd(number:Int)(b:List UInt8): ∀s∈bl number b,s.length=64:=λs hs=>by
 obtain⟨i,_,rfl⟩:=dQ.1 hs;exact HD (rm b i)
theorem sn{number:Int}{b:List UInt8}{k:Nat}(h:k< (bl number b).length)(h0:0≤number)(h1:number<4294967296)(hb:b.length≤3000):fp (bl number b)[k] number k=some (gW b k,((be b.length:Nat):Int)):=by
 rw[tC h];rw[cE]at h;exact Dm (rm b k) h0 h1 h (by have:=pP hb;omega)
theorem Af{rd:Int→ix}{number at':Int}{b:List UInt8}(h0:0≤number)(h1:number<4294967296)(hb:b.length≤3000): ∀k,k≤be b.length→(∀j (h:j< (bl number b).length),j<k→rd (at'+j)=(bl number b)[j])→
 lD rd number at' ((be b.length:Nat):Int) k=some ((List.range k).map (gW b)).flatten
 |0,_,_=>rfl
 |k+1,hk,h=>by
  have ih:=Af h0 h1 hb k (by omega) (λj hj hj2=>h j hj (by omega));have hl:k< (bl number b).length:=by rw[cE];omega
  rw[xZ ih (by rw[h k hl (by omega)];exact sn hl h0 h1 hb)];simp[dd]
theorem vE{rd:Int→ix}{number at':Int}{b:List UInt8}(h0:0≤number)(h1:number<4294967296)(hb:b.length≤3000)(h: ∀j (h:j< (bl number b).length),rd (at'+j)=(bl number b)[j]):fS rd number at'=some (b,((be b.length:Nat):Int)):=by
 have hl:0< (bl number b).length:=by rw[cE];exact mu _
 have hp:fp (rd at') number 0=some (gW b 0,((be b.length:Nat):Int)):=by
  have e:=h 0 hl;rw[show at'+((0:Nat):Int)=at' by omega]at e;rw[e];exact sn hl h0 h1 hb
 refine tx hp ?_;rw[K8,Af h0 h1 hb _ (aI _) (λj hj _=>h j hj),H7 b _ (y8 _)]
def Shows(rd:Int→ix)(at':Int)(l:List ix):Prop:=∀j (h:j<l.length),rd (at'+j)=l[j]
theorem Shows.left{rd:Int→ix}{at':Int}{a b:List ix}(h:Shows rd at' (a++b)):Shows rd at' a:=λj hj=>by
 rw[h j (by rw[ai];omega),Rf hj]
theorem Shows.right{rd:Int→ix}{at':Int}{a b:List ix}(h:Shows rd at' (a++b)):Shows rd (at'+a.length) b:=λj hj=>by
 have:=h (a.length+j) (by rw[ai];omega);rw[show at'+((a.length+j:Nat):Int)=at'+a.length+j by omega]at this;rw[this,Qk (by omega)];congr 1;omega
theorem xz{rd:Int→ix}: ∀(ls:List (List UInt8)) (n:Nat) (at':Int) (f:Nat),(∀b∈ls,b.length≤3000)→n+ls.length<4294967296→Shows rd at' (gX n ls)→
 gm rd (ls.length+f) n at'=(ls++(gm rd f ((n+ls.length:Nat):Int) (at'+(gX n ls).length)).1,(gm rd f ((n+ls.length:Nat):Int) (at'+(gX n ls).length)).2)
 | [],n,at',f,_,_,_=>by simp[gX]
 |b::ls,n,at',f,hl,hn,h=>by
  simp only[gX]at h ⊢;simp only[ax]at hn ⊢;have hs:=vE (rd:=rd) (number:=((n+1:Nat):Int)) (at':=at') (by omega) (by omega) (hl b (by simp)) h.left;have ih:=xz (rd:=rd) ls (n+1) (at'+(bl ((n+1:Nat):Int) b).length) f (λx hx=>hl x (by simp[hx])) (by omega) h.right;rw[cE]at ih;rw[show ls.length+1+f=(ls.length+f)+1 by omega,Bg (b:=b) (all:=((be b.length:Nat):Int)) (by rw[←hs];congr 1)];rw[show((n:Nat):Int)+1=((n+1:Nat):Int)by omega,ih];rw[ai,cE,show n+1+ls.length=n+(ls.length+1)by omega,show at'+((be b.length+(gX (n+1) ls).length:Nat):Int)=at'+((be b.length:Nat):Int)+(((gX (n+1) ls).length:Nat):Int)by omega];simp
structure LogD(D:DS)(ls:List (List UInt8)):Prop where
 ok:D.Ok
 inn:Wal.DS.In D
 ws:D.ws=[]
 short: ∀b∈ls,b.length≤3000
 room:cG ls≤2048
 shows:Shows D.read 0 (gX 0 ls)
 zero: ∀j,((cG ls:Nat):Int)≤j→D.read j=zs
theorem LogD.len{D:DS}{ls:List (List UInt8)}(h:LogD D ls):ls.length≤2048:=by have:=tA ls;have:=h.room;omega
theorem zN{rd:Int→ix}{number at':Int}(h:(rd at').getD 63 0≠1):fS rd number at'=none:=rJ (nR h)
theorem AR:zs.getD 63 0≠1:=by decide
theorem LogD.scan{D:DS}{ls:List (List UInt8)}(h:LogD D ls):gm D.read iF 0 0=(ls,((cG ls:Nat):Int)):=by
 have hl:=h.len;obtain⟨f,hf⟩: ∃f,iF=ls.length+f:=⟨iF-ls.length,by rw[qU];omega⟩;have:=xz (rd:=D.read) ls 0 0 f h.short (by omega) h.shows;rw[←hf]at this;rw[show((0:Nat):Int)=0 from rfl]at this;have hz:=h.zero _ (Int.le_refl _);simp only[cG]at hz;rw[this,Int.zero_add,rl (zN (by rw[hz];exact AR))];simp[cG]
theorem LogD.new:LogD DS.new []:=⟨DS.new_ok,⟨Mz,Mz⟩,rfl,λ_ h=>absurd h (by simp),by decide,λj h=>absurd h (by simp[gX]),λj _=>rfl⟩
theorem LogD.open{D:DS}{ls:List (List UInt8)}(h:LogD D ls)(ha:D.ar=false)(hd:D.dn=false): ∃D',bJ D=⟨0,ls,((cG ls:Nat):Int),D'⟩∧LogD D' ls∧D'.ar=false∧D'.dn=false:=by
 obtain⟨D',e,c,hw,hr⟩:=If (D:=D) ⟨h.ok,h.inn,ha,hd⟩;rw[h.scan]at e hr
 have hrd: ∀j,D'.read j=D.read j:=λj=>by
  rw[hr j];split
  · rename_i q;rw[h.zero j q.1]
  · rfl
 exact⟨D',e,⟨c.ok,c.inn,hw,h.short,h.room,λj hj=>by rw[hrd];exact h.shows j hj,λj hj=>by rw[hrd];exact h.zero j hj⟩,c.ar,c.dn⟩
def qf:Int→List ix→fK
 |_,[]=>[]
 |at',s::ss=>(at',s)::qf (at'+1) ss
theorem wW: ∀(ss:List ix) (at':Int),(qf at' ss).length=ss.length
 | [],_=>rfl
 |s::ss,at'=>by simp[qf,wW ss]
theorem s9: ∀(ss:List ix) (at':Int) (k:Nat) (h:k<ss.length),kY (qf at' ss) k=(at'+k,ss[k])
 |s::ss,at',0,_=>by simp[qf,kY]
 |s::ss,at',k+1,h=>by
  have ih:=s9 ss (at'+1) k (by simpa using h);simp only[kY,qf,List.getD_cons_succ]at ih ⊢;rw[ih];simp only[Rz,Prod.mk.injEq,and_true];omega
theorem Ac{s:ix}(h:s.length=64):eV s=s:=by simp[eV,h]
theorem vv: ∀(ss:List ix) (at':Int) (D:DS),D.Ok→Wal.DS.In D→D.dn=false→0≤at'→at'+ss.length≤2048→(∀s∈ss,s.length=64)→
 ∃(m:Nat) (D':DS),m≤ss.length∧gf ss at' D=((if m=ss.length then 0 else 4),D')∧D'.Ok∧Wal.DS.In D'∧D'.s=D.s∧D'.ws=D.ws++qf at' (ss.take m)∧D'.dn=decide (m<ss.length)∧D'.ar=D.ar∧(D.ar=false→m=ss.length)
 | [],at',D,h,hi,hd,_,_,_=>⟨0,D,aI _,rfl,h,hi,rfl,by simp[qf],by simp[hd],rfl,λ_=>rfl⟩
 |s::ss,at',D,h,hi,hd,h0,h1,hs=>by
  simp only[ax]at h1;have hs1:=hs s (by simp)
  by_cases hc:D.ar=true∧D.lf=0
  · have hw:=rU (D:=D) (at':=at') (bs:=s) (by omega) (by omega) hc
    refine⟨0,{D with dn:=true},aN _,?_,⟨h.s,h.ws,h.lf⟩,hi,rfl,by simp[qf],by simp,rfl,λq=>by rw[q]at hc;cases hc.1⟩;rw[gf,hw];simp
  · have h4:D.ar=false∨0<D.lf:=by
     have:=h.lf;cases q:D.ar
     · exact .inl rfl
     · right
       have:D.lf≠0:=λe=>hc ⟨q,e⟩
       omega
    have hw:=lZ (D:=D) (at':=at') (bs:=s) (by omega) (by omega) hd h4;obtain⟨m,D',a1,a2,a3,a4,a5,a6,a7,a8,a9⟩:=vv ss (at'+1) (uW D at' s) (wL h (by omega) h4) (wM hi (by omega)) rfl (by omega) (by omega) (λx hx=>hs x (by simp[hx]));refine⟨m+1,D',by simp;omega,?_,a3,a4,a5.trans rfl,?_,by rw[a7];simp,a8.trans rfl,λq=>by rw[a9 q];rfl⟩
    · rw[gf,hw]
      simp only[if_true,a2,ax,Nat.add_right_cancel_iff]
    · rw[a6]
      simp only[uW,List.take_succ_cons,qf,Ac hs1,aG,kR,bb]
theorem Shows.append{rd:Int→ix}{at':Int}{a b:List ix}(h:Shows rd at' a)(g:Shows rd (at'+a.length) b):Shows rd at' (a++b):=λj hj=>by
 by_cases q:j<a.length
 · rw[Rf q];exact h j q
 · rw[Qk (by omega),←g (j-a.length) (by rw[ai]at hj;omega)]
   congr 1;omega
theorem zU(s:fK)(l:List ix)(at' j:Int): ∀k,k≤l.length→jb s (qf at' l) j k=if at'≤j∧j<at'+k then l.getD (j-at').toNat zs else fa s j
 |0,_=>by rw[if_neg (by omega)];rfl
 |k+1,hk=>by
  rw[jb,s9 l at' k (by omega),zU s l at' j k (by omega)]
  by_cases q:at'+k=j
  · rw[if_pos q,if_pos (by omega),show(j-at').toNat=k by omega]
    simp[List.getD_eq_getElem?_getD,show k<l.length by omega]
  · rw[if_neg q]
    by_cases q2:at'≤j∧j<at'+k
    · rw[if_pos q2,if_pos (by omega)]
    · rw[if_neg q2,if_neg (by omega)]
structure Half(D:DS)(ls:List (List UInt8))(bs:List UInt8):Prop where
 ok:D.Ok
 inn:Wal.DS.In D
 short: ∀b∈ls,b.length≤3000
 short':bs.length≤3000
 room:cG ls+be bs.length≤2048
 shows:Shows (fa D.s) 0 (gX 0 ls)
 zero: ∀j,((cG ls:Nat):Int)≤j→fa D.s j=zs
 ws: ∃m,m≤be bs.length∧D.ws=qf ((cG ls:Nat):Int) ((bl ((ls.length+1:Nat):Int) bs).take m)
theorem LogD.rds{D:DS}{ls:List (List UInt8)}(h:LogD D ls)(j:Int):D.read j=fa D.s j:=by rw[DS.read,h.ws];rfl
theorem JE{D:DS}{ls:List (List UInt8)}{bs:List UInt8}(h:LogD D ls)(hd:D.dn=false)(hb:bs.length≤3000):
 (2048<cG ls+be bs.length∧lQ D ls.length ((cG ls:Nat):Int) bs=⟨3,ls.length,((cG ls:Nat):Int),D⟩)∨
 (cG ls+be bs.length≤2048∧∃D',lQ D ls.length ((cG ls:Nat):Int) bs=⟨0,ls.length+1,((cG (ls++[bs]):Nat):Int),D'⟩∧LogD D' (ls++[bs])∧D'.dn=false∧D'.ar=D.ar)∨
 (D.ar=true∧∃D',lQ D ls.length ((cG ls:Nat):Int) bs=⟨4,ls.length,((cG ls:Nat):Int),D'⟩∧Half D' ls bs):=by
 have hl:=h.len;have hp:=pP hb
 by_cases hr:2048<cG ls+be bs.length
 · exact .inl ⟨hr,Dg (by omega) (by omega)⟩
 · right
   have hss:(bl ((ls.length+1:Nat):Int) bs).length=be bs.length:=cE _ _;obtain⟨m,D',a1,a2,a3,a4,a5,a6,a7,a8,a9⟩:=vv (bl ((ls.length+1:Nat):Int) bs) ((cG ls:Nat):Int) D h.ok h.inn hd (by omega) (by rw[hss];omega) (nd _ _);rw[hss]at a1 a2 a7 a9;rw[h.ws,bb]at a6
   by_cases hm:m=be bs.length
   · left
     subst hm;rw[if_pos rfl]at a2;have hdn:D'.dn=false:=by rw[a7];simp
     obtain⟨s1,s2,s3,s4,s5⟩:=l5 hdn;rw[aB (by rw[hss];exact aI _)]at a6
     have hrd: ∀j,D'.sync.2.read j=if((cG ls:Nat):Int)≤j∧j< ((cG ls:Nat):Int)+be bs.length then(bl ((ls.length+1:Nat):Int) bs).getD (j- ((cG ls:Nat):Int)).toNat zs else D.read j:=λj=>by
      rw[rj hdn,DS.read,a6,wW,zU _ _ _ _ _ (aI _),hss,a5,h.rds]
     have hsz:=uO ls bs;refine⟨by omega,D'.sync.2,?_,⟨PY a3,wJ a4,s2,λb hb'=>?_,by omega,?_,λj hj=>?_⟩,s3,s4.trans a8⟩
     · rw[put_ok (by omega) (by omega) a2 s1,hsz]
       simp only[PutR.mk.injEq,true_and,and_true];omega
     · rcases bS.1 hb' with hb'|hb'
       · exact h.short b hb'
       · simp only[bR]at hb';subst hb';exact hb
     · rw[nq]
       refine Shows.append (λj hj=>?_) λj hj=>?_
       · rw[hrd,if_neg (by simp only[cG];omega)];exact h.shows j hj
       · simp only[gX,aR,bn]at hj ⊢
         rw[hrd,if_pos (by simp only[cG];rw[hss]at hj;omega),show(0+(((gX 0 ls).length:Nat):Int)+(j:Int)- ((cG ls:Nat):Int)).toNat=j by simp only[cG];omega];rw[List.getD_eq_getElem?_getD,List.getElem?_eq_getElem hj];rfl
     · rw[hrd,if_neg (by omega)]
       exact h.zero j (by omega)
   · right
     have har:D.ar=true:=by
      cases q:D.ar
      · exact absurd (a9 q) hm
      · rfl
     rw[if_neg hm]at a2;refine⟨har,D',zX (by omega) (by omega) a2 (by decide),⟨a3,a4,h.short,hb,by omega,λj hj=>?_,λj hj=>?_,m,a1,a6⟩⟩
     · rw[a5,←h.rds];exact h.shows j hj
     · rw[a5,←h.rds];exact h.zero j hj
theorem LogD.crash{D:DS}{ls:List (List UInt8)}(h:LogD D ls)(mask torn n:Int):LogD (D.crash mask torn n) ls∧(D.crash mask torn n).ar=false∧(D.crash mask torn n).dn=false:=by
 have hs:(D.crash mask torn n).s=D.s:=by simp only[DS.crash,h.ws];rfl
 have hr: ∀j,(D.crash mask torn n).read j=D.read j:=λj=>by rw[h.rds];show fa (D.crash mask torn n).s j=_;rw[hs]
 have c:=P6 h.ok h.inn mask torn n;exact⟨⟨c.ok,c.inn,rfl,h.short,h.room,λj hj=>by rw[hr];exact h.shows j hj,λj hj=>by rw[hr];exact h.zero j hj⟩,rfl,rfl⟩
theorem sJ(mask torn:Int)(c:Nat)(s:fK)(l:List ix)(at' j:Int): ∀k,k≤l.length→fa (gO mask torn c s (qf at' l) k) j=fa s j∨∃(i:Nat) (h:i<l.length),j=at'+i∧(fa (gO mask torn c s (qf at' l) k) j=l[i]∨fa (gO mask torn c s (qf at' l) k) j=lU (fa s j) l[i] c)
 |0,_=> .inl rfl
 |k+1,hk=>by
  have ih:=sJ mask torn c s l at' j k (by omega);simp only[gO,kh,s9 l at' k (show k<l.length by omega)]
  by_cases q:j=at'+k
  · have ih2:fa (gO mask torn c s (qf at' l) k) (at'+k)=fa s j:=by
     subst q
     have: ∀m,m≤k→fa (gO mask torn c s (qf at' l) m) (at'+k)=fa s (at'+k):=by
      intro m
      induction m with
      |zero=>intro _;rfl
      |succ m ihm=>
       intro hm;simp only[gO,kh,s9 l at' m (show m<l.length by omega)];split
       · rw[lw,if_neg (by omega)];exact ihm (by omega)
       · split
         · rw[lw,if_neg (by omega)];exact ihm (by omega)
         · exact ihm (by omega)
     exact this k (aI _)
    split
    · right
      refine⟨k,by omega,q, .inr ?_⟩;rw[lw,if_pos q,ih2]
    · split
      · right
        refine⟨k,by omega,q, .inl ?_⟩;rw[lw,if_pos q]
      · exact ih
  · split
    · rw[lw,if_neg q];exact ih
    · split
      · rw[lw,if_neg q];exact ih
      · exact ih
theorem Jl{new:ix}{c:Nat}(hn:new.length=64)(hc:c≤64):lU zs new c=new∨(lU zs new c).getD 63 0≠1:=by
 by_cases h:c=64
 · left;subst h
   simp only[lU];rw[aB (by omega),co (by decide),aR]
 · right
   simp only[lU,List.getD_eq_getElem?_getD];rw[List.getElem?_append_right (by rw[bq];omega),bq,Nat.min_eq_left (by omega),List.getElem?_drop,show c+(63-c)=63 by omega];decide
def PR(rd:Int→ix)(ls:List (List UInt8))(bs:List UInt8):Prop:=∀j,((cG ls:Nat):Int)≤j→rd j=zs∨(∃(i:Nat) (h:i< (bl ((ls.length+1:Nat):Int) bs).length),j=((cG ls:Nat):Int)+i∧rd j=(bl ((ls.length+1:Nat):Int) bs)[i])∨(rd j).getD 63 0≠1
theorem Half.crash{D:DS}{ls:List (List UInt8)}{bs:List UInt8}(h:Half D ls bs)(mask torn n:Int):Calm (D.crash mask torn n)∧Shows (D.crash mask torn n).read 0 (gX 0 ls)∧PR (D.crash mask torn n).read ls bs:=by
 obtain⟨m,hm,hws⟩:=h.ws;have hss:(bl ((ls.length+1:Nat):Int) bs).length=be bs.length:=cE _ _
 have hr: ∀j,(D.crash mask torn n).read j=fa (gO mask torn (nw n) D.s (qf ((cG ls:Nat):Int) ((bl ((ls.length+1:Nat):Int) bs).take m)) ((bl ((ls.length+1:Nat):Int) bs).take m).length) j:=λj=>by
  show fa (gO mask torn (nw n) D.s D.ws D.ws.length) j=_;rw[hws,wW]
 refine⟨P6 h.ok h.inn _ _ _,λj hj=>?_,λj hj=>?_⟩
 · rw[hr]
   rcases sJ mask torn (nw n) D.s ((bl ((ls.length+1:Nat):Int) bs).take m) ((cG ls:Nat):Int) (0+j) _ (aI _)with e| ⟨i,hi,e,_⟩
   · rw[e];exact h.shows j hj
   · simp only[cG]at e;omega
 · rw[hr]
   rcases sJ mask torn (nw n) D.s ((bl ((ls.length+1:Nat):Int) bs).take m) ((cG ls:Nat):Int) j _ (aI _)with e| ⟨i,hi,e,e2|e2⟩
   · left;rw[e];exact h.zero j hj
   · right;left
     refine⟨i,by rw[bq]at hi;omega,e,?_⟩;rw[e2,List.getElem_take]
   · right
     rw[h.zero j hj,List.getElem_take]at e2;have hi2:i< (bl ((ls.length+1:Nat):Int) bs).length:=by rw[bq]at hi;omega
     rcases Jl (new:=(bl ((ls.length+1:Nat):Int) bs)[i]) (c:=nw n) (nd _ _ _ (ey _)) (nv n)with q|q
     · left;exact⟨i,hi2,e,by rw[e2,q]⟩
     · right;rw[e2];exact q
end Wal
end

section
namespace Go.Proofs.YtjblgopghhgflaaGreat
open Go Leg Codec Api
theorem EK(wb b off cap:Nat)(v:Value)(bs:List UInt8)(l:List Int)(cs:List Value)(T:TypeId)(z:Nat×Nat)(hlen:bs.length+10*l.length≤140737488355328)(hb: ∀j,j<l.length→cs[off+j]?=some (.int .i64 (l.getD j 0))):
 DT 84 #[(.pointer (some ⟨wb,0,none⟩)),(.slice (some ⟨b,off,none⟩) (l.length) (cap))] (λF=>F b=some (.cells cs.toArray T z)) [am wb [v] 144,ee v (bs) 5] (q9 144 5 wb (bs++bj l)):=by
 refine BD 45 Tryz.func84 rfl rfl rfl λw0 F hF=>sr λ_ J1=>PS ?_
 refine nx J1 (aa λ_ J2=>sr λ_ J3=>PS ?_);refine tp (uy rfl kM rfl) ?_;refine PS ?_;refine nx J3 (aq ?_)
 refine bA (α:=(Nat)×(Value)×(List UInt8)) (λ⟨k,u,laid⟩=>k≤l.length∧laid++bj (l.drop k)=bs++bj l) (λ⟨k,u,laid⟩=>[(0,(.pointer (some ⟨wb,0,none⟩))),(4,(.pointer none)),(8,(.slice (some ⟨b,off,none⟩) (l.length) (cap))),(9,(.int .i64 (((l.length:Nat):Int)))),(10,(.int .i64 ((k:Nat))))]) (λ⟨k,u,laid⟩=>[am wb [u] 144,ee u (laid) 5]) (λ⟨k,u,laid⟩=>l.length-k) (0,v,bs)
  ⟨by omega,rfl⟩ SB
  (λ_ s=>s) (λ⟨k,u,laid⟩ hinv=>?_)
 obtain⟨hk,hL⟩:=hinv;refine sr λ_ J4=>PS ?_
 refine ao ?_ ?_<;>intro h11;refine nx J4 (aa λ_ J5=>CY (qx J5 (aa λ_ J6=>aq (sr λ_ J7=>tp (kl (r:=off+k) rfl kM aQ rfl rfl (by first|omega|decide) (by first|omega|decide) (by omega)) ?_))));refine tp (iI (v:=(.int .i64 ((l.getD k 0)))) rfl Y3 rfl rfl (Rd.ro hF) (hb k (by omega))) ?_;refine PS ?_;refine nx J7 (sr λ_ J8=>PS ?_);refine tp (eM (r:=((((l.getD k 0%18446744073709551616).toNat:Nat)):Int)) rfl Y3 Tryz.underlying202 rfl (AT _)) ?_;refine PS ?_;refine nx J8 (aa λ_ J9=>aq ?_)
 refine bA (α:=(Nat)×(Value)×(List UInt8)) (λ⟨m,u2,laid2⟩=>laid2++(tW m++bj (l.drop (k+1)))=bs++bj l) (λ⟨m,u2,laid2⟩=>[(0,(.pointer (some ⟨wb,0,none⟩))),(4,(.pointer none)),(7,(.int .u64 ((m:Nat)))),(8,(.slice (some ⟨b,off,none⟩) (l.length) (cap))),(9,(.int .i64 (((l.length:Nat):Int)))),(10,(.int .i64 ((k:Nat))))]) (λ⟨m,u2,laid2⟩=>[am wb [u2] 144,ee u2 (laid2) 5]) (λ⟨m,u2,laid2⟩=>m) ((l.getD k 0%18446744073709551616).toNat,u,laid)
  (by rw[←hL,IN (l:=l) (k:=k) (by omega)];rfl) SB
  (λ_ s=>s) (λ⟨m,u2,laid2⟩ hinv=>?_)
 have hM:=hinv;refine aa λ_ J10=>sr λ_ J11=>P2 ?_
 refine ao ?_ ?_<;>intro h17;refine nx J11 (CY (qx J10 (aq (sr λ_ J12=>P3 ?_))));refine FA 0 KU oM ?_;refine LA 0 ic ?_;refine PS ?_;refine tp (eM (r:=(IntKind.u8.wrap ((m:Nat):Int))) rfl Tryz.underlying202 Y5 rfl rfl) ?_;refine tp (KX (r:=(((UInt8.ofNat (m%128+128)).toNat:Nat):Int)) rfl rfl rfl (OC m)) ?_;refine aW (cells:=#[(.int .u8 ((((UInt8.ofNat (m%128+128)).toNat:Nat):Int)))]) (ab rfl) rfl rfl rfl ic Ao rfl rfl rfl (by as_aux_lemma=>kernel_rfl) (λb26=>cS (k:=2) (news:=eB ([(UInt8.ofNat (m%128+128))])) (nn':=(laid2++[(UInt8.ofNat (m%128+128))]:List UInt8).length) (xs':=eB (laid2++[(UInt8.ofNat (m%128+128))])) (ab rfl) rfl rfl rfl ic Ao rfl rfl rfl rfl rfl rfl (λ_ _=>kj rfl (RO 0) rfl) (fk [(UInt8.ofNat (m%128+128))]) (by have:=congrArg List.length hM;have:=aV l;have:=qX m;simp only[ai,maxLen]at*;omega) (by have:=congrArg List.length hM;have:=aV l;have:=qX m;simp only[ai]at*;omega) (by simp) (jH _ _).symm (λv27 ov27=>PS ?_));refine FA 0 KU oM ?_;refine bI (i:=1) (ab rfl) rfl rfl rfl rfl ov27 oM rfl rfl (lb rfl) rfl rfl (nx J12 (ae (PS ?_)));refine tp (mI (r:=((m / 128:Nat):Int)) rfl rfl rfl (by omega) (Qu m)) ?_;refine PS ?_;refine au (ag ?_)
 exact aK ((m / 128,v27,laid2++[(UInt8.ofNat (m%128+128))]):(Nat)×(Value)×(List UInt8)) (by rw[←hM,oC (by omega)];simp) (by show m / 128<m;omega)
  SB
  (λ_ s=>ak [1,1] rfl s)
 refine nx J11 (CN (aX (aA (aA (bu (ac J9 (ae (P3 ?_))))))));refine FA 0 KU oM ?_;refine LA 0 ic ?_;refine PS ?_;refine tp (eM (r:=(((UInt8.ofNat m).toNat:Nat):Int)) rfl Tryz.underlying202 Y5 rfl (Mo (by omega))) ?_;refine aW (cells:=#[(.int .u8 ((((UInt8.ofNat m).toNat:Nat):Int)))]) (ab rfl) rfl rfl rfl ic Ao rfl rfl rfl (by as_aux_lemma=>kernel_rfl) (λb39=>cS (k:=2) (news:=eB ([(UInt8.ofNat m)])) (nn':=(laid2++[(UInt8.ofNat m)]:List UInt8).length) (xs':=eB (laid2++[(UInt8.ofNat m)])) (ab rfl) rfl rfl rfl ic Ao rfl rfl rfl rfl rfl rfl (λ_ _=>kj rfl (RO 0) rfl) (fk [(UInt8.ofNat m)]) (by have:=congrArg List.length hM;have:=aV l;have:=qX m;simp only[ai,maxLen]at*;omega) (by have:=congrArg List.length hM;have:=aV l;have:=qX m;simp only[ai]at*;omega) (by simp) (jH _ _).symm (λv40 ov40=>PS ?_));refine FA 0 KU oM ?_;refine bI (i:=1) (ab rfl) rfl rfl rfl rfl ov40 oM rfl rfl (lb rfl) rfl rfl (au (ag (ac J6 (ae (AD ?_)))));refine PS ?_;refine au ?_
 exact aK ((k+1,v40,laid2++[(UInt8.ofNat m)]):(Nat)×(Value)×(List UInt8)) ⟨by omega,by rw[←hM,nt (by omega)];simp⟩ (by show _-_<_-_;omega)
  SB
  (λ_ s=>ak [1,1] rfl s)
 refine nx J4 (aa λ_ J13=>CN (aX (aA (aA (bu (ac J2 (sr λ_ J14=>P2 ?_)))))));refine nx J14 (aj (WK [0,0] (aw rfl rfl ?_)));obtain rfl:laid=bs++bj l:=by rw[←hL,dR (by omega)];simp[bj]
 exact⟨u,rfl,rfl⟩
theorem I9(wb:Nat)(v:Value)(bs:List UInt8):
 DT 84 #[(.pointer (some ⟨wb,0,none⟩)),(.slice none 0 0)] T0 [am wb [v] 144,ee v (bs) 5] (q9 144 5 wb (bs++bj [])):=by
 refine BD 45 Tryz.func84 rfl rfl rfl λw0 F hF=>sr λ_ J1=>PS ?_
 refine nx J1 (aa λ_ J2=>sr λ_ J3=>PS ?_);refine tp (uy rfl kM rfl) ?_;refine PS ?_;refine nx J3 (aq ?_)
 refine bA (α:=Unit) (λ_u=>True) (λ_u=>[(0,(.pointer (some ⟨wb,0,none⟩))),(4,(.pointer none)),(8,(.slice none 0 0)),(9,(.int .i64 0)),(10,(.int .i64 0))]) (λ_u=>[am wb [v] 144,ee v (bs) 5]) (λ_u=>0) ()
  trivial SB
  (λ_ s=>s) (λ_u hinv=>?_)
 obtain _:=hinv;refine sr λ_ J4=>PS ?_
 refine nx J4 (aa λ_ J5=>CN (aX (aA (aA (bu (ac J2 (sr λ_ J6=>P2 ?_)))))));refine nx J6 (aj (aw rfl rfl ?_));exact⟨v,rfl,by rw[iG,aR]⟩
theorem dZ(wb:Nat)(v:Value)(bs:List UInt8)(x:Value)(l:List Int)(hlen:bs.length+10*l.length≤140737488355328):DT 84 #[(.pointer (some ⟨wb,0,none⟩)),x] (Rg x l) [am wb [v] 144,ee v bs 5] (q9 144 5 wb (bs++bj l)):=by
 refine Leg.Does.of λF hF=>?_
 rcases id hF with⟨rfl,rfl⟩| ⟨b,off,cap,cs,T,z,rfl,h3,h4⟩
 · exact⟨_,trivial,I9 wb v bs⟩
 · exact⟨_,h3,EK wb b off cap v bs l cs T z hlen h4⟩
theorem eF(wb:Nat)(v:Value)(bs:List UInt8)(hlen:bs.length≤140737488355328):
 DT 89 #[(.pointer (some ⟨wb,0,none⟩))] T0 [am wb [v] 144,ee v (bs) 5] (dB (λx H=>∃u,x=u∧H=[am wb [v] 144,ee v bs 5,ee u bs 5])):=by
 refine Leg.Does.body (vs:=[(.pointer (some ⟨wb,0,none⟩))]) (n:=9) Tryz.func89 rfl rfl rfl (λw0 F hF=>?_);refine sr λ_ J1=>?_
 refine qq ?_;refine nx J1 ?_;refine sr λ_ J2=>?_
 refine Et (ab rfl) rfl rfl rfl ic mg (λv3=>?_);change TL _ _ _ _ _ _ _ _ _ [ee v3 ([]) 5,am wb [v] 144,ee v (bs) 5];refine mv ?_;refine tp (gH rfl rfl) ?_;refine tp (bc (r:=0) rfl KU rfl oM rfl rfl) ?_;refine tp (iI (v:=v) rfl ic rfl rfl (fE 1 rfl rfl) rfl) ?_;refine cS (k:=0) (news:=eB (bs)) (nn':=(bs:List UInt8).length) (xs':=eB (bs)) (ab rfl) rfl rfl rfl ic Ao rfl rfl rfl rfl rfl rfl (λ_ s=>Rt 2 rfl rfl s) (fk _) (by simp only[maxLen,ax,aE];omega) (by simp only[ax,aE];omega) (by simp) (bb _) (λv8 ov8=>?_);change TL _ _ _ _ _ _ _ _ _ [ee v8 (bs) 5,am wb [v] 144,ee v (bs) 5];refine qq ?_;refine nx J2 ?_;refine aj ?_;refine aF (dE _) (λ_ s=>ak [1,1,0] rfl s) ?_;refine aw rfl rfl ?_;exact⟨v8,rfl,rfl⟩
theorem Cj(wb:Nat)(v:Value)(bs:List UInt8)(a0 a1 g0 g1 g2 g3 g4:Int)(hlen:bs.length+70≤140737488355328):
 DT 88 #[(.pointer (some ⟨wb,0,none⟩)),(.agg #[(.int .i64 (a0)),(.int .i64 (a1)),(.int .i64 (g0)),(.int .i64 (g1)),(.int .i64 (g2)),(.int .i64 (g3)),(.int .i64 (g4))])] T0 [am wb [v] 144,ee v (bs) 5] (q9 144 5 wb (bs++bj [a0,a1,g0,g1,g2,g3,g4])):=by
 refine BD 15 Tryz.func88 rfl rfl rfl λw0 F hF=>sr λ_ J1=>XB λb3=>?_
 refine PS ?_;refine nx J1 (aa λ_ J2=>D1 0 bp ?_);refine PD 0 ?_;refine FD 1 0 eX aQ ?_;refine LX 2 Y3 (.int .i64 (a0)) ?_ (hc:=by exact rfl);refine FD 3 1 eX aQ ?_;refine LX 4 Y3 (.int .i64 (a1)) ?_ (hc:=by exact rfl);refine FD 7 2 eX fu ?_;refine ta 8 rfl (oH rfl ky aQ rfl) ?_;refine AL 5 ?_;refine aW (cells:=#[(.int .i64 (a0)),(.int .i64 (a1))]) (ab rfl) rfl rfl rfl kM sE rfl rfl rfl (by as_aux_lemma=>kernel_rfl) (λb10=>EN (AL 6 ?_));refine CQ oN (dZ wb v (bs) (.slice (some ⟨b10,0,none⟩) (2) (2)) [a0,a1] (by simp only[ai,ax,aE,aC];first|omega| (have:=aV [a0,a1];simp only[ax,aE]at this;omega))) (SM [2,2]) (dS 0 rfl rfl rfl rfl) λvR HR hR=>?_
 obtain⟨u1,rfl,rfl⟩:=hR;refine EN (AL 9 ?_);refine CQ oN (dZ wb u1 (bs++bj [a0,a1]) (.slice (some ⟨b3,2,none⟩) (5) (5)) [g0,g1,g2,g3,g4] (by simp only[ai,ax,aE,aC];first|omega| (have:=aV [a0,a1];simp only[ax,aE]at this;omega))) ID (dS 1 rfl rfl rfl rfl) λvR HR hR=>?_
 obtain⟨u2,rfl,rfl⟩:=hR;refine EN (PD 10 ?_);refine DN (ac J2 (aj (WK [0,0] (aw rfl rfl ?_))));exact⟨_,rfl,by rw[aG,←qW];rfl⟩
theorem yV(wb:Nat)(v:Value)(bs:List UInt8)(a0 a1 a2:Int)(hlen:bs.length+30≤140737488355328):
 DT 87 #[(.pointer (some ⟨wb,0,none⟩)),(.agg #[(.int .i64 (a0)),(.int .i64 (a1)),(.int .i64 (a2))])] T0 [am wb [v] 144,ee v (bs) 5] (q9 144 5 wb (bs++bj [a0,a1,a2])):=by
 refine BD 14 Tryz.func87 rfl rfl rfl λw0 F hF=>sr λ_ J1=>XB λb3=>?_
 refine PS ?_;refine nx J1 (sr λ_ J2=>PS ?_);refine FA 0 n9 aQ ?_;refine LA 0 Y3 ?_;refine FA 1 n9 aQ ?_;refine LA 0 Y3 ?_;refine FA 2 n9 aQ ?_;refine LA 0 Y3 ?_;refine aW (cells:=#[(.int .i64 (a0)),(.int .i64 (a1)),(.int .i64 (a2))]) (ab rfl) rfl rfl rfl kM sE rfl rfl rfl (by as_aux_lemma=>kernel_rfl) (λb12=>CQ oN (dZ wb v (bs) (.slice (some ⟨b12,0,none⟩) (3) (3)) [a0,a1,a2] (by simp only[ai,ax,aE,aC];first|omega| (have:=aV [a0,a1];simp only[ax,aE]at this;omega))) (SM [2,2]) (dS 0 rfl rfl rfl rfl) λvR HR hR=>?_);obtain⟨u1,rfl,rfl⟩:=hR;refine PS ?_;exact nx J2 (aj (WK [0,0] (aw rfl rfl ⟨_,rfl,rfl⟩)))
theorem yW(wb:Nat)(v:Value)(bs:List UInt8)(a0 a1:Int)(hlen:bs.length+20≤140737488355328):
 DT 86 #[(.pointer (some ⟨wb,0,none⟩)),(.agg #[(.int .i64 (a0)),(.int .i64 (a1))])] T0 [am wb [v] 144,ee v (bs) 5] (q9 144 5 wb (bs++bj [a0,a1])):=by
 refine BD 12 Tryz.func86 rfl rfl rfl λw0 F hF=>sr λ_ J1=>XB λb3=>?_
 refine PS ?_;refine nx J1 (sr λ_ J2=>PS ?_);refine FA 0 kW aQ ?_;refine LA 0 Y3 ?_;refine FA 1 kW aQ ?_;refine LA 0 Y3 ?_;refine aW (cells:=#[(.int .i64 (a0)),(.int .i64 (a1))]) (ab rfl) rfl rfl rfl kM sE rfl rfl rfl (by as_aux_lemma=>kernel_rfl) (λb10=>CQ oN (dZ wb v (bs) (.slice (some ⟨b10,0,none⟩) (2) (2)) [a0,a1] (by simp only[ai,ax,aE,aC];first|omega| (have:=aV [a0,a1];simp only[ax,aE]at this;omega))) (SM [2,2]) (dS 0 rfl rfl rfl rfl) λvR HR hR=>?_);obtain⟨u1,rfl,rfl⟩:=hR;refine PS ?_;exact nx J2 (aj (WK [0,0] (aw rfl rfl ⟨_,rfl,rfl⟩)))
theorem Cq(wb:Nat)(v:Value)(bs:List UInt8)(a0 a1 g0 g1 g2 g3 g4:Int)(hlen:bs.length+70≤140737488355328):
 DT 127 #[(.pointer (some ⟨wb,0,none⟩)),(.agg #[(.int .i64 (a0)),(.int .i64 (a1)),(.int .i64 (g0)),(.int .i64 (g1)),(.int .i64 (g2)),(.int .i64 (g3)),(.int .i64 (g4))])] T0 [am wb [v] 144,ee v (bs) 5] (dB (λx H=>∃v',x= .tuple #[]∧H=[am wb [v'] 144,ee v' (bs++bj [a0,a1,g0,g1,g2,g3,g4]) 5])):=by
 refine BD 14 Tryz.func127 rfl rfl rfl λw0 F hF=>sr λ_ J1=>XB λb3=>?_
 refine nx J1 (D1 0 bp ?_);refine PD 0 ?_;refine FD 1 0 nF aQ ?_;refine LX 2 Y3 (.int .i64 (a0)) ?_ (hc:=by exact rfl);refine FD 3 1 nF aQ ?_;refine LX 4 Y3 (.int .i64 (a1)) ?_ (hc:=by exact rfl);refine FD 7 2 nF fu ?_;refine ta 8 rfl (oH rfl ky aQ rfl) ?_;refine AL 5 ?_;refine aW (cells:=#[(.int .i64 (a0)),(.int .i64 (a1))]) (ab rfl) rfl rfl rfl kM sE rfl rfl rfl (by as_aux_lemma=>kernel_rfl) (λb9=>EN (AL 6 ?_));refine CQ oN (dZ wb v (bs) (.slice (some ⟨b9,0,none⟩) (2) (2)) [a0,a1] (by simp only[ai,ax,aE,aC];first|omega| (have:=aV [a0,a1];simp only[ax,aE]at this;omega))) (SM [2,2]) (dS 0 rfl rfl rfl rfl) λvR HR hR=>?_
 obtain⟨u1,rfl,rfl⟩:=hR;refine EN (AL 9 ?_);refine CQ oN (dZ wb u1 (bs++bj [a0,a1]) (.slice (some ⟨b3,2,none⟩) (5) (5)) [g0,g1,g2,g3,g4] (by simp only[ai,ax,aE,aC];first|omega| (have:=aV [a0,a1];simp only[ax,aE]at this;omega))) ID (dS 1 rfl rfl rfl rfl) λvR HR hR=>?_
 obtain⟨u2,rfl,rfl⟩:=hR;refine EN (DN (WK [0,0] (bG rfl ?_)));exact⟨_,rfl,by rw[aG,←qW];rfl⟩
theorem w4(wb:Nat)(v:Value)(bs:List UInt8)(c:CellT)(hlen:bs.length+70≤140737488355328):DT 127 #[(.pointer (some ⟨wb,0,none⟩)),c.val] T0 [am wb [v] 144,ee v bs 5] (dB (λx H=>∃v',x= .tuple #[]∧H=[am wb [v'] 144,ee v' (bs++bj c.flat) 5])):=by
 obtain⟨i,o,g⟩:=c;exact Ln (p:=λg=>Leg.Does Tryz.prog 127 #[(.pointer (some ⟨wb,0,none⟩)),CellT.val ⟨i,o,g⟩] (λ_=>True) [am wb [v] 144,ee v bs 5] (dB (λx H=>∃v',x= .tuple #[]∧H=[am wb [v'] 144,ee v' (bs++bj (CellT.flat ⟨i,o,g⟩)) 5]))) (λa b c d e=>Cq wb v bs i o a b c d e hlen) g
theorem rT(wb:Nat)(v:Value)(bs:List UInt8)(x:ViewT)(hlen:bs.length+70≤140737488355328):DT 88 #[(.pointer (some ⟨wb,0,none⟩)),x.val] T0 [am wb [v] 144,ee v bs 5] (q9 144 5 wb (bs++bj x.flat)):=by
 obtain⟨i,o,g⟩:=x;exact Ln (p:=λg=>Leg.Does Tryz.prog 88 #[(.pointer (some ⟨wb,0,none⟩)),ViewT.val ⟨i,o,g⟩] (λ_=>True) [am wb [v] 144,ee v bs 5] (q9 144 5 wb (bs++bj (ViewT.flat ⟨i,o,g⟩)))) (λa b c d e=>Cj wb v bs i o a b c d e hlen) g
theorem pD(wb:Nat)(v:Value)(bs:List UInt8)(x:ChangeT)(hlen:bs.length+30≤140737488355328):DT 87 #[(.pointer (some ⟨wb,0,none⟩)),x.val] T0 [am wb [v] 144,ee v bs 5] (q9 144 5 wb (bs++bj x.flat)):=yV wb v bs x.kind x.who x.heir (by omega)
theorem j6(wb:Nat)(v:Value)(bs:List UInt8)(x:BallotT)(hlen:bs.length+30≤140737488355328):DT 86 #[(.pointer (some ⟨wb,0,none⟩)),x.val] T0 [am wb [v] 144,ee v bs 5] (q9 144 5 wb (bs++bj x.flat)):=yW wb v bs x.round x.who (by omega)
theorem uC(wb:Nat)(v:Value)(bs:List UInt8)(x:RowT)(hlen:bs.length+2000≤140737488355328):
 DT 85 #[(.pointer (some ⟨wb,0,none⟩)),(.agg (ints x.flat).toArray)] T0 [am wb [v] 144,ee v (bs) 5] (q9 144 5 wb (bs++eS x)):=by
 refine BD 50 Tryz.func85 rfl rfl rfl λw0 F hF=>sr λ_ J1=>XY (ints x.flat) λb3=>?_
 refine PS ?_;refine nx J1 (sr λ_ J2=>PS ?_);refine FA 0 dV aQ ?_;refine LT 0 Y3 (.int .i64 (x.version)) ?_ (hc:=by exact RowT.get_version _);refine aW (cells:=#[(.int .i64 (x.version))]) (ab rfl) rfl rfl rfl kM sE rfl rfl rfl (by as_aux_lemma=>kernel_rfl) (λb14=>CQ oN (dZ wb v (bs) (.slice (some ⟨b14,0,none⟩) (1) (1)) [x.version] (by have:=congrArg List.length (Eq.refl bs);have:=iX x;simp only[ai,ax,aE]at*;omega)) (SM [2,2]) (dS 0 rfl rfl rfl rfl) λvR HR hR=>?_);obtain⟨u1,rfl,rfl⟩:=hR;refine nx J2 (aa λ_ J3=>sr λ_ J4=>FA 1 dV mn ?_);refine tp (aO (vs:=ints (bN x.cells.toList)) rfl Ch rfl mn rfl (RO 3) (by rw[ints_length,cv];simp) (RowT.get_cells _)) ?_;refine PS ?_;refine nx J4 (aq ?_)
 refine bA (α:=(Nat)×(Value)×(List UInt8)) (λ⟨k,u,laid⟩=>k≤4∧laid++(bj (bN (x.cells.toList.drop k))++ek x 5 0)=bs++eS x) (λ⟨k,u,laid⟩=>[(0,(.pointer (some ⟨wb,0,none⟩))),(3,(.pointer (some ⟨b3,0,none⟩))),(4,(.pointer none)),(17,(.agg (ints (bN x.cells.toList)).toArray)),(18,(.int .i64 ((k:Nat))))]) (λ⟨k,u,laid⟩=>[am b3 (ints x.flat) 60,am wb [u] 144,ee u (laid) 5]) (λ⟨k,u,laid⟩=>4-k) (0,u1,bs++bj [x.version])
  ⟨by omega,by simp[eS,bj]⟩ SB
  (λ_ s=>ak [3,0,0] rfl s) (λ⟨k,u,laid⟩ hinv=>?_)
 obtain⟨hk,hL⟩:=hinv;have hE:=hL;rw[show bj (bN (x.cells.toList.drop k))=bj (bN (x.cells.toList.drop k))from rfl]at hE;refine sr λ_ J5=>PS ?_
 refine ao ?_ ?_<;>intro h19;refine nx J5 (aa λ_ J6=>CY (qx J6 (aa λ_ J7=>aq (sr λ_ J8=>tp (Rm (cs:=ints (bN (x.cells.toList))) (r:=k*7) rfl Ch nF rfl fY rfl rfl (by omega) (by omega) (by omega) (Ar (by simp;omega))) ?_))));refine XA La λb6=>?_
 refine bO (vs:=ints ((x.cells.toList)[k]'(by simp;omega)).flat) (cs':=ints ((x.cells.toList)[k]'(by simp;omega)).flat) (i:=0) (ab rfl) rfl rfl rfl rfl rfl (by rw[bz];exact fY) (bF _) rfl rfl (by rw[bz];exact aI _) (gi (by rw[bz];rfl)) rfl (nx J8 (ae (PS ?_)));refine tp (aO (vs:=ints ((x.cells.toList)[k]'(by simp;omega)).flat) rfl nF rfl fY rfl (RO 0) (bz _) (by rw[ba,aB (by rw[bz];decide)])) ?_;refine CR M4 (w4 wb u (laid) ((x.cells.toList)[k]'(by simp;omega)) (by have:=congrArg List.length hE;have:=iX x;have:=aV ((x.cells.toList)[k]'(by simp;omega)).flat;rw[bD]at this;simp only[ai]at*;omega)) (SM [2,2]) λvR HR hR=>?_
 obtain⟨u2,rfl,rfl⟩:=hR;refine au (ag (ac J7 (ae (AD ?_))));refine PS ?_;refine au ?_
 exact aK ((k+1,u2,laid++bj ((x.cells.toList)[k]'(by simp;omega)).flat):(Nat)×(Value)×(List UInt8)) ⟨by omega,by rw[←hL,l9 (l:=x.cells.toList) (k:=k) (by simp;omega)];simp⟩ (by show _-_<_-_;omega)
  SB
  (λ_ s=>ak [3,0,0] rfl s)
 refine nx J5 (aa λ_ J9=>CN (aX (aA (aA (bu (ac J3 (aa λ_ J10=>sr λ_ J11=>FA 29 dV fu ?_)))))));refine tp (aO (vs:=ints x.heir.toList) rfl ky rfl fu rfl (RO 0) (by rw[ints_length];simp) (RowT.get_heirs _)) ?_;refine PS ?_;refine nx J11 (aq ?_)
 refine bA (α:=(Nat)×(Value)×(List UInt8)) (λ⟨i,u,laid⟩=>i≤5∧laid++ek x (5-i) i=bs++eS x) (λ⟨i,u,laid⟩=>[(0,(.pointer (some ⟨wb,0,none⟩))),(3,(.pointer (some ⟨b3,0,none⟩))),(4,(.pointer none)),(26,(.agg (ints x.heir.toList).toArray)),(27,(.int .i64 ((i:Nat))))]) (λ⟨i,u,laid⟩=>[am b3 (ints x.flat) 60,am wb [u] 144,ee u (laid) 5]) (λ⟨i,u,laid⟩=>5-i) (0,u,laid)
  ⟨by omega,by rw[←hL,dR (by simp;omega)];simp[bN,bj]⟩ SB
  (λ_ s=>ak [0,0,0] rfl s) (λ⟨i,u,laid⟩ hinv=>?_)
 obtain⟨hi,hL⟩:=hinv;have hE:=hL;refine sr λ_ J12=>PS ?_
 refine ao ?_ ?_<;>intro h28;refine nx J12 (aa λ_ J13=>CY (qx J13 (aa λ_ J14=>aq (sr λ_ J15=>PS ?_))));refine tp (lM (cs:=ints x.heir.toList) (v:= .int .i64 (x.heir[i]'(by omega))) (r:=i) rfl ky Y3 rfl aQ rfl rfl (by omega) (by omega) (by omega) (by rw[ints_get _ _ (by simp;omega)];simp[List.getD_eq_getElem?_getD,show i<5 by omega])) ?_;refine P2 ?_;refine nx J15 (sr λ_ J16=>P2 ?_);refine aW (cells:=#[(.int .i64 (x.heir[i]'(by omega)))]) (ab rfl) rfl rfl rfl kM sE rfl rfl rfl (by as_aux_lemma=>kernel_rfl) (λb33=>CQ oN (dZ wb u (laid) (.slice (some ⟨b33,0,none⟩) (1) (1)) [x.heir[i]'(by omega)] (by have:=congrArg List.length hE;have:=iX x;simp only[ai,ax,aE]at*;omega)) (SM [2,2]) (dS 0 rfl rfl rfl rfl) λvR HR hR=>?_);obtain⟨u2,rfl,rfl⟩:=hR;refine nx J16 (sr λ_ J17=>P2 ?_);refine ao ?_ ?_<;>intro h36;refine nx J17 (CY (sr λ_ J18=>PS ?_));refine FA 34 dV Cx ?_;refine IX (34+i*28) Nf mn ?_;refine tp (aO (vs:=ints (bN (x.left[i]'(by omega)).toList)) rfl Ch rfl mn rfl (RO 3) (by rw[ints_length,cv];simp) (RowT.get_left _ i (by omega))) ?_;refine PS ?_;refine nx J18 (aq ?_)
 refine bA (α:=(Nat)×(Value)×(List UInt8)) (λ⟨k,u3,laid3⟩=>k≤4∧laid3++(bj (bN ((x.left[i]'(by omega)).toList.drop k))++ek x (5- (i+1)) (i+1))=bs++eS x) (λ⟨k,u3,laid3⟩=>[(0,(.pointer (some ⟨wb,0,none⟩))),(3,(.pointer (some ⟨b3,0,none⟩))),(4,(.pointer none)),(26,(.agg (ints x.heir.toList).toArray)),(27,(.int .i64 ((i:Nat)))),(40,(.agg (ints (bN (x.left[i]'(by omega)).toList)).toArray)),(41,(.int .i64 ((k:Nat))))]) (λ⟨k,u3,laid3⟩=>[am b3 (ints x.flat) 60,am wb [u3] 144,ee u3 (laid3) 5]) (λ⟨k,u3,laid3⟩=>4-k) (0,u2,laid++bj [x.heir[i]'(by omega)])
  ⟨by omega,by rw[←hL,rO (i:=i) (by omega),if_pos h36];simp[bj]⟩ SB
  (λ_ s=>ak [3,0,0] rfl s) (λ⟨k,u3,laid3⟩ hinv=>?_)
 obtain⟨hk,hM⟩:=hinv;have hE:=hM;refine sr λ_ J19=>PS ?_
 refine ao ?_ ?_<;>intro h42;refine nx J19 (aa λ_ J20=>CY (qx J20 (aa λ_ J21=>aq (sr λ_ J22=>tp (Rm (cs:=ints (bN ((x.left[i]'(by omega)).toList))) (r:=k*7) rfl Ch nF rfl fY rfl rfl (by omega) (by omega) (by omega) (Ar (by simp;omega))) ?_))));refine XA La λb10=>?_
 refine bO (vs:=ints (((x.left[i]'(by omega)).toList)[k]'(by simp;omega)).flat) (cs':=ints (((x.left[i]'(by omega)).toList)[k]'(by simp;omega)).flat) (i:=0) (ab rfl) rfl rfl rfl rfl rfl (by rw[bz];exact fY) (bF _) rfl rfl (by rw[bz];exact aI _) (gi (by rw[bz];rfl)) rfl (nx J22 (ae (PS ?_)));refine tp (aO (vs:=ints (((x.left[i]'(by omega)).toList)[k]'(by simp;omega)).flat) rfl nF rfl fY rfl (RO 0) (bz _) (by rw[ba,aB (by rw[bz];decide)])) ?_;refine CR M4 (w4 wb u3 (laid3) (((x.left[i]'(by omega)).toList)[k]'(by simp;omega)) (by have:=congrArg List.length hE;have:=iX x;have:=aV (((x.left[i]'(by omega)).toList)[k]'(by simp;omega)).flat;rw[bD]at this;simp only[ai]at*;omega)) (SM [2,2]) λvR HR hR=>?_
 obtain⟨u3,rfl,rfl⟩:=hR;refine au (ag (ac J21 (ae (AD ?_))));refine PS ?_;refine au ?_
 exact aK ((k+1,u3,laid3++bj (((x.left[i]'(by omega)).toList)[k]'(by simp;omega)).flat):(Nat)×(Value)×(List UInt8)) ⟨by omega,by rw[←hM,l9 (l:=(x.left[i]'(by omega)).toList) (k:=k) (by simp;omega)];simp⟩ (by show _-_<_-_;omega)
  SB
  (λ_ s=>ak [3,0,0] rfl s)
 refine nx J19 (aa λ_ J23=>CN (aX (aA (aA (bu (ag (ac J14 (ae (AD ?_)))))))));refine PS ?_;refine au ?_
 exact aK ((i+1,u3,laid3):(Nat)×(Value)×(List UInt8)) ⟨by omega,by rw[←hM,dR (by simp;omega)];simp[bN,bj]⟩ (by show _-_<_-_;omega)
  SB
  (λ_ s=>ak [0,0,0] rfl s)
 refine nx J17 (CN (aU (ag (ac J14 (ae (AD ?_))))));refine PS ?_;refine au ?_
 exact aK ((i+1,u2,laid++bj [x.heir[i]'(by omega)]):(Nat)×(Value)×(List UInt8)) ⟨by omega,by rw[←hL,rO (i:=i) (by omega),if_neg h36];simp[bj]⟩ (by show _-_<_-_;omega)
  SB
  (λ_ s=>ak [3,0,0] rfl s)
 refine nx J12 (aa λ_ J24=>CN (aX (aA (aA (bu (ac J10 (sr λ_ J25=>P2 ?_)))))));refine nx J25 (aj (WK [1,1] (aw rfl rfl ?_)));obtain rfl:laid=bs++eS x:=by rw[←hL,show 5-i=0 by omega];simp[ek]
 exact⟨u,rfl,rfl⟩
theorem DW(m:MsgT):
 DT 205 #[(.agg (ints m.flat).toArray)] T0 [] (dB (λr' H=>∃u,r'=u∧H=[ee u (cq m) 5])):=by
 refine BD 100 Tryz.func205 rfl rfl rfl λw0 F hF=>sr λ_ J1=>XY (ints m.flat) λb1=>?_
 refine PS ?_;refine nx J1 (sr λ_ J2=>XA Oj λb4=>?_);refine TL.ownNil 5 (λon=>?_);clear on;refine PS ?_;refine nx J2 (aa λ_ J3=>sr λ_ J4=>FA 0 bk aQ ?_);refine LU 2 Y3 (fi m rfl) ?_;refine nx J4 (aq (aa λ_ J5=>fC (α:=Unit) (λ_u=>True) (λ_u=>[(1,(.pointer (some ⟨b1,0,none⟩))),(2,(.slice none 0 0)),(3,(.pointer (some ⟨b4,0,none⟩))),(6,(.int .i64 (m.kind))),(7,(.bool ((eD m.kind))))]) (λ_u=>[ee (.slice none 0 0) ([]) 5,am b4 [(.slice none 0 0)] 144,am b1 (ints m.flat) 178]) (λ_u hinv=>?_) (λtl5=>?_)));have _:=hinv;refine ac J5 (TC.cond rfl (λh7=>?_) (λh7=>?_));refine D1 2 bp ?_;refine PD 0 ?_;refine FD 1 0 bk aQ ?_;refine LR 2 Y3 (fi m rfl) ?_;refine FD 3 1 bk aQ ?_;refine LR 4 Y3 (ct m rfl) ?_;refine FD 7 2 bk bg ?_;refine ta 8 rfl (aO (vs:=ints m.row.flat) rfl dV rfl bg rfl (λ_ h=>h.2.1) (ah m.row) (mW m 0 rfl (by decide) (whole (ah m.row)))) ?_;refine AL 5 ?_;refine aW (cells:=#[(.int .i64 (m.kind)),(.int .i64 (m.whose))]) (ab rfl) rfl rfl rfl kM sE rfl rfl rfl (by as_aux_lemma=>kernel_rfl) (λb16=>EN (AL 6 ?_));refine CQ oN (dZ b4 (.slice none 0 0) ([]) (.slice (some ⟨b16,0,none⟩) (2) (2)) [m.kind,m.whose] (by simp)) (SM [2,1]) (dS 0 rfl rfl rfl rfl) λvR HR hR=>?_
 obtain⟨u1,rfl,rfl⟩:=hR;refine EN (AL 9 ?_);refine CR NC (uC b4 u1 (bj [m.kind,m.whose]) m.row (by(have:=aV [m.kind,m.whose]);simp only[BallotT.flat,ViewT.flat,ChangeT.flat,ax,aE,aC,ai]at*;omega)) ID λvR HR hR=>?_
 obtain⟨u2,rfl,rfl⟩:=hR;refine EN (DN (ag (ac J3 (sr λ_ J6=>PS ?_))));refine CR su (eF b4 u2 (bj [m.kind,m.whose]++eS m.row) (by(have:=aV [m.kind,m.whose]);(have:=iX m.row);simp only[BallotT.flat,ViewT.flat,ChangeT.flat,ax,aE,aC,ai]at*;omega)) ID λvR HR hR=>?_
 obtain⟨_,rfl,rfl⟩:=hR;revert vR;intro u3;refine PS ?_;refine nx J6 (aj (WK [2] (aw rfl rfl ?_)));exact⟨_,rfl,congrArg (λb=>[ee u3 b 5]) (show(bj [m.kind,m.whose]++eS m.row)=cq m by simp[cq,bj, *])⟩;refine sr λ_ J7=>PS ?_
 refine ao ?_ ?_<;>intro h22;refine PS ?_;refine nx J7 (CY (ae (PS ?_)));refine FA 0 bk aQ ?_;refine LU 2 Y3 (fi m rfl) ?_;refine FA 176 bk aQ ?_;refine LU 2 Y3 (MsgT.at_version m rfl) ?_;refine aW (cells:=#[(.int .i64 (m.kind)),(.int .i64 (m.version))]) (ab rfl) rfl rfl rfl kM sE rfl rfl rfl (by as_aux_lemma=>kernel_rfl) (λb28=>CQ oN (dZ b4 (.slice none 0 0) ([]) (.slice (some ⟨b28,0,none⟩) (2) (2)) [m.kind,m.version] (by simp)) (SM [2,1]) (dS 0 rfl rfl rfl rfl) λvR HR hR=>?_);obtain⟨u1,rfl,rfl⟩:=hR;refine au (ag (ac J3 (sr λ_ J8=>PS ?_)));refine CR su (eF b4 u1 (bj [m.kind,m.version]) (by(have:=aV [m.kind,m.version]);simp only[BallotT.flat,ViewT.flat,ChangeT.flat,ax,aE,aC,ai]at*;omega)) ID λvR HR hR=>?_
 obtain⟨_,rfl,rfl⟩:=hR;revert vR;intro u2;refine PS ?_;refine nx J8 (aj (WK [2] (aw rfl rfl ?_)));exact⟨_,rfl,congrArg (λb=>[ee u2 b 5]) (show(bj [m.kind,m.version])=cq m by simp[cq,eD,fo,bj, *])⟩;refine PS ?_;refine nx J7 (CN (aa λ_ J9=>fC (α:=Unit) (λ_u=>True) (λ_u=>[(1,(.pointer (some ⟨b1,0,none⟩))),(2,(.slice none 0 0)),(3,(.pointer (some ⟨b4,0,none⟩))),(6,(.int .i64 (m.kind))),(30,(.bool ((fo m.kind))))]) (λ_u=>[ee (.slice none 0 0) ([]) 5,am b4 [(.slice none 0 0)] 144,am b1 (ints m.flat) 178]) (λ_u hinv=>?_) (λtl9=>?_)));have _:=hinv;refine ac J9 (TC.cond rfl (λh30=>?_) (λh30=>?_));refine D1 2 bp ?_;refine PD 0 ?_;refine FD 1 0 bk aQ ?_;refine LR 2 Y3 (fi m rfl) ?_;refine FD 3 177 bk aQ ?_;refine LR 4 Y3 (e6 m rfl) ?_;refine FD 7 178 bk cI ?_;refine ta 8 rfl (aO (vs:=ints m.ballot.flat) rfl kW rfl cI rfl (λ_ h=>h.2.1) (ap m.ballot) (jF m 0 rfl (by decide) (whole (ap m.ballot)))) ?_;refine AL 5 ?_;refine aW (cells:=#[(.int .i64 (m.kind)),(.int .i64 (m.epoch))]) (ab rfl) rfl rfl rfl kM sE rfl rfl rfl (by as_aux_lemma=>kernel_rfl) (λb38=>EN (AL 6 ?_));refine CQ oN (dZ b4 (.slice none 0 0) ([]) (.slice (some ⟨b38,0,none⟩) (2) (2)) [m.kind,m.epoch] (by simp)) (SM [2,1]) (dS 0 rfl rfl rfl rfl) λvR HR hR=>?_
 obtain⟨u1,rfl,rfl⟩:=hR;refine EN (AL 9 ?_);refine CR Il (j6 b4 u1 (bj [m.kind,m.epoch]) m.ballot (by(have:=aV [m.kind,m.epoch]);simp only[BallotT.flat,ViewT.flat,ChangeT.flat,ax,aE,aC,ai]at*;omega)) ID λvR HR hR=>?_
 obtain⟨u2,rfl,rfl⟩:=hR;refine EN (DN (ag (ac J3 (sr λ_ J10=>PS ?_))));refine CR su (eF b4 u2 (bj [m.kind,m.epoch]++bj m.ballot.flat) (by(have:=aV [m.kind,m.epoch]);(have:=aV (m.ballot.flat));simp only[BallotT.flat,ViewT.flat,ChangeT.flat,ax,aE,aC,ai]at*;omega)) ID λvR HR hR=>?_
 obtain⟨_,rfl,rfl⟩:=hR;revert vR;intro u3;refine PS ?_;refine nx J10 (aj (WK [2] (aw rfl rfl ?_)));exact⟨_,rfl,congrArg (λb=>[ee u3 b 5]) (show(bj [m.kind,m.epoch]++bj m.ballot.flat)=cq m by simp[cq,bj, *])⟩;refine sr λ_ J11=>PS ?_
 refine ao ?_ ?_<;>intro h44;refine PS ?_;refine nx J11 (CY (D1 2 bp ?_));refine PD 0 ?_;refine FD 1 0 bk aQ ?_;refine LR 2 Y3 (fi m rfl) ?_;refine FD 3 177 bk aQ ?_;refine LR 4 Y3 (e6 m rfl) ?_;refine FD 7 178 bk cI ?_;refine ta 8 rfl (aO (vs:=ints m.ballot.flat) rfl kW rfl cI rfl (λ_ h=>h.2.1) (ap m.ballot) (jF m 0 rfl (by decide) (whole (ap m.ballot)))) ?_;refine FD 10 180 bk cI ?_;refine ta 11 rfl (aO (vs:=ints m.had.flat) rfl kW rfl cI rfl (λ_ h=>h.2.1) (ap m.had) (Rx m 0 rfl (by decide) (whole (ap m.had)))) ?_;refine FD 13 182 bk gg ?_;refine ta 14 rfl (aO (vs:=ints m.change.flat) rfl n9 rfl gg rfl (λ_ h=>h.2.1) (aM m.change) (oe m 0 rfl (by decide) (whole (aM m.change)))) ?_;refine AL 5 ?_;refine aW (cells:=#[(.int .i64 (m.kind)),(.int .i64 (m.epoch))]) (ab rfl) rfl rfl rfl kM sE rfl rfl rfl (by as_aux_lemma=>kernel_rfl) (λb50=>EN (AL 6 ?_));refine CQ oN (dZ b4 (.slice none 0 0) ([]) (.slice (some ⟨b50,0,none⟩) (2) (2)) [m.kind,m.epoch] (by simp)) (SM [2,1]) (dS 0 rfl rfl rfl rfl) λvR HR hR=>?_
 obtain⟨u1,rfl,rfl⟩:=hR;refine EN (AL 9 ?_);refine CR Il (j6 b4 u1 (bj [m.kind,m.epoch]) m.ballot (by(have:=aV [m.kind,m.epoch]);simp only[BallotT.flat,ViewT.flat,ChangeT.flat,ax,aE,aC,ai]at*;omega)) ID λvR HR hR=>?_
 obtain⟨u2,rfl,rfl⟩:=hR;refine EN (AL 12 ?_);refine CR Il (j6 b4 u2 (bj [m.kind,m.epoch]++bj m.ballot.flat) m.had (by(have:=aV [m.kind,m.epoch]);(have:=aV (m.ballot.flat));simp only[BallotT.flat,ViewT.flat,ChangeT.flat,ax,aE,aC,ai]at*;omega)) ID λvR HR hR=>?_
 obtain⟨u3,rfl,rfl⟩:=hR;refine EN (AL 15 ?_);refine CR NB (pD b4 u3 (bj [m.kind,m.epoch]++bj m.ballot.flat++bj m.had.flat) m.change (by(have:=aV [m.kind,m.epoch]);(have:=aV (m.ballot.flat));(have:=aV (m.had.flat));simp only[BallotT.flat,ViewT.flat,ChangeT.flat,ax,aE,aC,ai]at*;omega)) ID λvR HR hR=>?_
 obtain⟨u4,rfl,rfl⟩:=hR;refine EN (DN (ag (ac J3 (sr λ_ J12=>PS ?_))));refine CR su (eF b4 u4 (bj [m.kind,m.epoch]++bj m.ballot.flat++bj m.had.flat++bj m.change.flat) (by(have:=aV [m.kind,m.epoch]);(have:=aV (m.ballot.flat));(have:=aV (m.had.flat));(have:=aV (m.change.flat));simp only[BallotT.flat,ViewT.flat,ChangeT.flat,ax,aE,aC,ai]at*;omega)) ID λvR HR hR=>?_
 obtain⟨_,rfl,rfl⟩:=hR;revert vR;intro u5;refine PS ?_;refine nx J12 (aj (WK [2] (aw rfl rfl ?_)));exact⟨_,rfl,congrArg (λb=>[ee u5 b 5]) (show(bj [m.kind,m.epoch]++bj m.ballot.flat++bj m.had.flat++bj m.change.flat)=cq m by simp[cq,eD,fo,bj, *])⟩;refine PS ?_;refine nx J11 (CN (sr λ_ J13=>PS ?_));refine ao ?_ ?_<;>intro h62;refine PS ?_;refine nx J13 (CY (D1 2 bp ?_));refine PD 0 ?_;refine FD 1 0 bk aQ ?_;refine LR 2 Y3 (fi m rfl) ?_;refine FD 3 177 bk aQ ?_;refine LR 4 Y3 (e6 m rfl) ?_;refine FD 7 178 bk cI ?_;refine ta 8 rfl (aO (vs:=ints m.ballot.flat) rfl kW rfl cI rfl (λ_ h=>h.2.1) (ap m.ballot) (jF m 0 rfl (by decide) (whole (ap m.ballot)))) ?_;refine FD 10 182 bk gg ?_;refine ta 11 rfl (aO (vs:=ints m.change.flat) rfl n9 rfl gg rfl (λ_ h=>h.2.1) (aM m.change) (oe m 0 rfl (by decide) (whole (aM m.change)))) ?_;refine AL 5 ?_;refine aW (cells:=#[(.int .i64 (m.kind)),(.int .i64 (m.epoch))]) (ab rfl) rfl rfl rfl kM sE rfl rfl rfl (by as_aux_lemma=>kernel_rfl) (λb68=>EN (AL 6 ?_));refine CQ oN (dZ b4 (.slice none 0 0) ([]) (.slice (some ⟨b68,0,none⟩) (2) (2)) [m.kind,m.epoch] (by simp)) (SM [2,1]) (dS 0 rfl rfl rfl rfl) λvR HR hR=>?_
 obtain⟨u1,rfl,rfl⟩:=hR;refine EN (AL 9 ?_);refine CR Il (j6 b4 u1 (bj [m.kind,m.epoch]) m.ballot (by(have:=aV [m.kind,m.epoch]);simp only[BallotT.flat,ViewT.flat,ChangeT.flat,ax,aE,aC,ai]at*;omega)) ID λvR HR hR=>?_
 obtain⟨u2,rfl,rfl⟩:=hR;refine EN (AL 12 ?_);refine CR NB (pD b4 u2 (bj [m.kind,m.epoch]++bj m.ballot.flat) m.change (by(have:=aV [m.kind,m.epoch]);(have:=aV (m.ballot.flat));simp only[BallotT.flat,ViewT.flat,ChangeT.flat,ax,aE,aC,ai]at*;omega)) ID λvR HR hR=>?_
 obtain⟨u3,rfl,rfl⟩:=hR;refine EN (DN (ag (ac J3 (sr λ_ J14=>PS ?_))));refine CR su (eF b4 u3 (bj [m.kind,m.epoch]++bj m.ballot.flat++bj m.change.flat) (by(have:=aV [m.kind,m.epoch]);(have:=aV (m.ballot.flat));(have:=aV (m.change.flat));simp only[BallotT.flat,ViewT.flat,ChangeT.flat,ax,aE,aC,ai]at*;omega)) ID λvR HR hR=>?_
 obtain⟨_,rfl,rfl⟩:=hR;revert vR;intro u4;refine PS ?_;refine nx J14 (aj (WK [2] (aw rfl rfl ?_)));exact⟨_,rfl,congrArg (λb=>[ee u4 b 5]) (show(bj [m.kind,m.epoch]++bj m.ballot.flat++bj m.change.flat)=cq m by simp[cq,eD,fo,bj, *])⟩;refine PS ?_;refine nx J13 (CN (sr λ_ J15=>PS ?_));refine ao ?_ ?_<;>intro h77;refine PS ?_;refine nx J15 (CY (D1 2 bp ?_));refine PD 0 ?_;refine FD 1 0 bk aQ ?_;refine LR 2 Y3 (fi m rfl) ?_;refine FD 5 185 bk bm ?_;refine ta 6 rfl (aO (vs:=ints m.view.flat) rfl eX rfl bm rfl (λ_ h=>h.2.1) (an m.view) (wG m 0 rfl (by decide) (whole (an m.view)))) ?_;refine AL 3 ?_;refine aW (cells:=#[(.int .i64 (m.kind))]) (ab rfl) rfl rfl rfl kM sE rfl rfl rfl (by as_aux_lemma=>kernel_rfl) (λb81=>EN (AL 4 ?_));refine CQ oN (dZ b4 (.slice none 0 0) ([]) (.slice (some ⟨b81,0,none⟩) (1) (1)) [m.kind] (by simp)) (SM [2,1]) (dS 0 rfl rfl rfl rfl) λvR HR hR=>?_
 obtain⟨u1,rfl,rfl⟩:=hR;refine EN (AL 7 ?_);refine CR NA (rT b4 u1 (bj [m.kind]) m.view (by(have:=aV [m.kind]);simp only[BallotT.flat,ViewT.flat,ChangeT.flat,ax,aE,aC,ai]at*;omega)) ID λvR HR hR=>?_
 obtain⟨u2,rfl,rfl⟩:=hR;refine EN (DN (ag (ac J3 (sr λ_ J16=>PS ?_))));refine CR su (eF b4 u2 (bj [m.kind]++bj m.view.flat) (by(have:=aV [m.kind]);(have:=aV (m.view.flat));simp only[BallotT.flat,ViewT.flat,ChangeT.flat,ax,aE,aC,ai]at*;omega)) ID λvR HR hR=>?_
 obtain⟨_,rfl,rfl⟩:=hR;revert vR;intro u3;refine PS ?_;refine nx J16 (aj (WK [2] (aw rfl rfl ?_)));exact⟨_,rfl,congrArg (λb=>[ee u3 b 5]) (show(bj [m.kind]++bj m.view.flat)=cq m by simp[cq,eD,fo,bj, *])⟩;refine PS ?_;refine nx J15 (CN (sr λ_ J17=>PS ?_));refine ao ?_ ?_<;>intro h87;refine PS ?_;refine nx J17 (CY (D1 2 bp ?_));refine PD 0 ?_;refine FD 1 0 bk aQ ?_;refine LR 2 Y3 (fi m rfl) ?_;refine FD 3 1 bk aQ ?_;refine LR 4 Y3 (ct m rfl) ?_;refine FD 7 185 bk bm ?_;refine ta 8 rfl (aO (vs:=ints m.view.flat) rfl eX rfl bm rfl (λ_ h=>h.2.1) (an m.view) (wG m 0 rfl (by decide) (whole (an m.view)))) ?_;refine AL 5 ?_;refine aW (cells:=#[(.int .i64 (m.kind)),(.int .i64 (m.whose))]) (ab rfl) rfl rfl rfl kM sE rfl rfl rfl (by as_aux_lemma=>kernel_rfl) (λb93=>EN (AL 6 ?_));refine CQ oN (dZ b4 (.slice none 0 0) ([]) (.slice (some ⟨b93,0,none⟩) (2) (2)) [m.kind,m.whose] (by simp)) (SM [2,1]) (dS 0 rfl rfl rfl rfl) λvR HR hR=>?_
 obtain⟨u1,rfl,rfl⟩:=hR;refine EN (AL 9 ?_);refine CR NA (rT b4 u1 (bj [m.kind,m.whose]) m.view (by(have:=aV [m.kind,m.whose]);simp only[BallotT.flat,ViewT.flat,ChangeT.flat,ax,aE,aC,ai]at*;omega)) ID λvR HR hR=>?_
 obtain⟨u2,rfl,rfl⟩:=hR;refine EN (DN (ag (ac J3 (sr λ_ J18=>PS ?_))));refine CR su (eF b4 u2 (bj [m.kind,m.whose]++bj m.view.flat) (by(have:=aV [m.kind,m.whose]);(have:=aV (m.view.flat));simp only[BallotT.flat,ViewT.flat,ChangeT.flat,ax,aE,aC,ai]at*;omega)) ID λvR HR hR=>?_
 obtain⟨_,rfl,rfl⟩:=hR;revert vR;intro u3;refine PS ?_;refine nx J18 (aj (WK [2] (aw rfl rfl ?_)));exact⟨_,rfl,congrArg (λb=>[ee u3 b 5]) (show(bj [m.kind,m.whose]++bj m.view.flat)=cq m by simp[cq,eD,fo,bj, *])⟩;refine PS ?_;refine nx J17 (CN (aU (ag (ac J3 (sr λ_ J19=>PS ?_)))));refine CR su (eF b4 (.slice none 0 0) ([]) (by simp)) (SM [1,0]) λvR HR hR=>?_
 obtain⟨_,rfl,rfl⟩:=hR;revert vR;intro u1;refine PS ?_;refine nx J19 (aj (WK [2] (aw rfl rfl ?_)));exact⟨_,rfl,congrArg (λb=>[ee u1 b 5]) (show([]:List UInt8)=cq m by simp[cq,bj, *])⟩;refine sr λ_ J20=>P2 ?_
 refine ao ?_ ?_<;>intro h30;refine nx J20 (CY (aU ?_))
 exact aF
  (aS (aS (aS (aS (bv rfl (by simp[fo, *]) SB)))))
  (λ_ s=>s)
  (tl9 (():Unit) trivial)
 refine nx J20 (CN (ae (PS ?_)));refine ao ?_ ?_<;>intro h32;refine PS ?_;refine au ?_
 exact aF
  (aS (aS (aS (aS (bv rfl (by simp[fo, *]) SB)))))
  (λ_ s=>s)
  (tl9 (():Unit) trivial)
 refine PS ?_;refine au ?_
 exact aF
  (aS (aS (aS (aS (bv rfl (by simp[fo, *]) SB)))))
  (λ_ s=>s)
  (tl9 (():Unit) trivial)
 refine sr λ_ J21=>P2 ?_
 refine ao ?_ ?_<;>intro h7;refine nx J21 (CY (aU ?_))
 exact aF
  (aS (aS (aS (aS (bv rfl (by simp[eD, *]) SB)))))
  (λ_ s=>s)
  (tl5 (():Unit) trivial)
 refine nx J21 (CN (sr λ_ J22=>P2 ?_));refine ao ?_ ?_<;>intro h7;refine nx J22 (CY (aU ?_))
 exact aF
  (aS (aS (aS (aS (bv rfl (by simp[eD, *]) SB)))))
  (λ_ s=>s)
  (tl5 (():Unit) trivial)
 refine nx J22 (CN (ae (PS ?_)));refine ao ?_ ?_<;>intro h10;refine PS ?_;refine au ?_
 exact aF
  (aS (aS (aS (aS (bv rfl (by simp[eD, *]) SB)))))
  (λ_ s=>s)
  (tl5 (():Unit) trivial)
 refine PS ?_;refine au ?_
 exact aF
  (aS (aS (aS (aS (bv rfl (by simp[eD, *]) SB)))))
  (λ_ s=>s)
  (tl5 (():Unit) trivial)
theorem De(m:RecT):
 DT 50 #[(.agg (ints m.flat).toArray)] T0 [] (dB (λr' H=>∃u,r'=u∧H=[ee u (dF m) 5])):=by
 refine BD 77 Tryz.func50 rfl rfl rfl λw0 F hF=>sr λ_ J1=>XY (ints m.flat) λb1=>?_
 refine PS ?_;refine nx J1 (sr λ_ J2=>XA Oj λb4=>?_);refine TL.ownNil 5 (λon=>?_);clear on;refine PS ?_;refine nx J2 (aa λ_ J3=>sr λ_ J4=>FA 0 jD aQ ?_);refine LU 2 Y3 (lj m rfl) ?_;refine nx J4 (aq (sr λ_ J5=>PS ?_));refine ao ?_ ?_<;>intro h8;refine PS ?_;refine nx J5 (CY (D1 2 bp ?_));refine PD 0 ?_;refine FD 1 0 jD aQ ?_;refine LR 2 Y3 (lj m rfl) ?_;refine FD 5 2 jD bg ?_;refine ta 6 rfl (aO (vs:=ints m.row.flat) rfl dV rfl bg rfl (λ_ h=>h.2.1) (ah m.row) (sR m 0 rfl (by decide) (whole (ah m.row)))) ?_;refine AL 3 ?_;refine aW (cells:=#[(.int .i64 (m.kind))]) (ab rfl) rfl rfl rfl kM sE rfl rfl rfl (by as_aux_lemma=>kernel_rfl) (λb12=>EN (AL 4 ?_));refine CQ oN (dZ b4 (.slice none 0 0) ([]) (.slice (some ⟨b12,0,none⟩) (1) (1)) [m.kind] (by simp)) (SM [2,1]) (dS 0 rfl rfl rfl rfl) λvR HR hR=>?_
 obtain⟨u1,rfl,rfl⟩:=hR;refine EN (AL 7 ?_);refine CR NC (uC b4 u1 (bj [m.kind]) m.row (by(have:=aV [m.kind]);simp only[BallotT.flat,ViewT.flat,ChangeT.flat,ax,aE,aC,ai]at*;omega)) ID λvR HR hR=>?_
 obtain⟨u2,rfl,rfl⟩:=hR;refine EN (DN (ag (ac J3 (sr λ_ J6=>PS ?_))));refine CR su (eF b4 u2 (bj [m.kind]++eS m.row) (by(have:=aV [m.kind]);(have:=iX m.row);simp only[BallotT.flat,ViewT.flat,ChangeT.flat,ax,aE,aC,ai]at*;omega)) ID λvR HR hR=>?_
 obtain⟨_,rfl,rfl⟩:=hR;revert vR;intro u3;refine PS ?_;refine nx J6 (aj (WK [2] (aw rfl rfl ?_)));exact⟨_,rfl,congrArg (λb=>[ee u3 b 5]) (show(bj [m.kind]++eS m.row)=dF m by simp[dF,eD,fo,bj, *])⟩;refine PS ?_;refine nx J5 (CN (sr λ_ J7=>PS ?_));refine ao ?_ ?_<;>intro h18;refine PS ?_;refine nx J7 (CY (D1 2 bp ?_));refine PD 0 ?_;refine FD 1 0 jD aQ ?_;refine LR 2 Y3 (lj m rfl) ?_;refine FD 3 1 jD aQ ?_;refine LR 4 Y3 (Hd m rfl) ?_;refine FD 7 2 jD bg ?_;refine ta 8 rfl (aO (vs:=ints m.row.flat) rfl dV rfl bg rfl (λ_ h=>h.2.1) (ah m.row) (sR m 0 rfl (by decide) (whole (ah m.row)))) ?_;refine AL 5 ?_;refine aW (cells:=#[(.int .i64 (m.kind)),(.int .i64 (m.whose))]) (ab rfl) rfl rfl rfl kM sE rfl rfl rfl (by as_aux_lemma=>kernel_rfl) (λb24=>EN (AL 6 ?_));refine CQ oN (dZ b4 (.slice none 0 0) ([]) (.slice (some ⟨b24,0,none⟩) (2) (2)) [m.kind,m.whose] (by simp)) (SM [2,1]) (dS 0 rfl rfl rfl rfl) λvR HR hR=>?_
 obtain⟨u1,rfl,rfl⟩:=hR;refine EN (AL 9 ?_);refine CR NC (uC b4 u1 (bj [m.kind,m.whose]) m.row (by(have:=aV [m.kind,m.whose]);simp only[BallotT.flat,ViewT.flat,ChangeT.flat,ax,aE,aC,ai]at*;omega)) ID λvR HR hR=>?_
 obtain⟨u2,rfl,rfl⟩:=hR;refine EN (DN (ag (ac J3 (sr λ_ J8=>PS ?_))));refine CR su (eF b4 u2 (bj [m.kind,m.whose]++eS m.row) (by(have:=aV [m.kind,m.whose]);(have:=iX m.row);simp only[BallotT.flat,ViewT.flat,ChangeT.flat,ax,aE,aC,ai]at*;omega)) ID λvR HR hR=>?_
 obtain⟨_,rfl,rfl⟩:=hR;revert vR;intro u3;refine PS ?_;refine nx J8 (aj (WK [2] (aw rfl rfl ?_)));exact⟨_,rfl,congrArg (λb=>[ee u3 b 5]) (show(bj [m.kind,m.whose]++eS m.row)=dF m by simp[dF,eD,fo,bj, *])⟩;refine PS ?_;refine nx J7 (CN (sr λ_ J9=>PS ?_));refine ao ?_ ?_<;>intro h30;refine PS ?_;refine nx J9 (CY (ae (PS ?_)));refine FA 0 jD aQ ?_;refine LU 2 Y3 (lj m rfl) ?_;refine FA 1 jD aQ ?_;refine LU 2 Y3 (Hd m rfl) ?_;refine aW (cells:=#[(.int .i64 (m.kind)),(.int .i64 (m.whose))]) (ab rfl) rfl rfl rfl kM sE rfl rfl rfl (by as_aux_lemma=>kernel_rfl) (λb36=>CQ oN (dZ b4 (.slice none 0 0) ([]) (.slice (some ⟨b36,0,none⟩) (2) (2)) [m.kind,m.whose] (by simp)) (SM [2,1]) (dS 0 rfl rfl rfl rfl) λvR HR hR=>?_);obtain⟨u1,rfl,rfl⟩:=hR;refine au (ag (ac J3 (sr λ_ J10=>PS ?_)));refine CR su (eF b4 u1 (bj [m.kind,m.whose]) (by(have:=aV [m.kind,m.whose]);simp only[BallotT.flat,ViewT.flat,ChangeT.flat,ax,aE,aC,ai]at*;omega)) ID λvR HR hR=>?_
 obtain⟨_,rfl,rfl⟩:=hR;revert vR;intro u2;refine PS ?_;refine nx J10 (aj (WK [2] (aw rfl rfl ?_)));exact⟨_,rfl,congrArg (λb=>[ee u2 b 5]) (show(bj [m.kind,m.whose])=dF m by simp[dF,eD,fo,bj, *])⟩;refine PS ?_;refine nx J9 (CN (sr λ_ J11=>PS ?_));refine ao ?_ ?_<;>intro h39;refine PS ?_;refine nx J11 (CY (D1 2 bp ?_));refine PD 0 ?_;refine FD 1 0 jD aQ ?_;refine LR 2 Y3 (lj m rfl) ?_;refine FD 3 176 jD aQ ?_;refine LR 4 Y3 (RecT.at_epoch m rfl) ?_;refine FD 7 177 jD cI ?_;refine ta 8 rfl (aO (vs:=ints m.ballot.flat) rfl kW rfl cI rfl (λ_ h=>h.2.1) (ap m.ballot) (rG m 0 rfl (by decide) (whole (ap m.ballot)))) ?_;refine AL 5 ?_;refine aW (cells:=#[(.int .i64 (m.kind)),(.int .i64 (m.epoch))]) (ab rfl) rfl rfl rfl kM sE rfl rfl rfl (by as_aux_lemma=>kernel_rfl) (λb45=>EN (AL 6 ?_));refine CQ oN (dZ b4 (.slice none 0 0) ([]) (.slice (some ⟨b45,0,none⟩) (2) (2)) [m.kind,m.epoch] (by simp)) (SM [2,1]) (dS 0 rfl rfl rfl rfl) λvR HR hR=>?_
 obtain⟨u1,rfl,rfl⟩:=hR;refine EN (AL 9 ?_);refine CR Il (j6 b4 u1 (bj [m.kind,m.epoch]) m.ballot (by(have:=aV [m.kind,m.epoch]);simp only[BallotT.flat,ViewT.flat,ChangeT.flat,ax,aE,aC,ai]at*;omega)) ID λvR HR hR=>?_
 obtain⟨u2,rfl,rfl⟩:=hR;refine EN (DN (ag (ac J3 (sr λ_ J12=>PS ?_))));refine CR su (eF b4 u2 (bj [m.kind,m.epoch]++bj m.ballot.flat) (by(have:=aV [m.kind,m.epoch]);(have:=aV (m.ballot.flat));simp only[BallotT.flat,ViewT.flat,ChangeT.flat,ax,aE,aC,ai]at*;omega)) ID λvR HR hR=>?_
 obtain⟨_,rfl,rfl⟩:=hR;revert vR;intro u3;refine PS ?_;refine nx J12 (aj (WK [2] (aw rfl rfl ?_)));exact⟨_,rfl,congrArg (λb=>[ee u3 b 5]) (show(bj [m.kind,m.epoch]++bj m.ballot.flat)=dF m by simp[dF,eD,fo,bj, *])⟩;refine PS ?_;refine nx J11 (CN (sr λ_ J13=>PS ?_));refine ao ?_ ?_<;>intro h51;refine PS ?_;refine nx J13 (CY (D1 2 bp ?_));refine PD 0 ?_;refine FD 1 0 jD aQ ?_;refine LR 2 Y3 (lj m rfl) ?_;refine FD 3 176 jD aQ ?_;refine LR 4 Y3 (RecT.at_epoch m rfl) ?_;refine FD 7 177 jD cI ?_;refine ta 8 rfl (aO (vs:=ints m.ballot.flat) rfl kW rfl cI rfl (λ_ h=>h.2.1) (ap m.ballot) (rG m 0 rfl (by decide) (whole (ap m.ballot)))) ?_;refine FD 10 179 jD gg ?_;refine ta 11 rfl (aO (vs:=ints m.change.flat) rfl n9 rfl gg rfl (λ_ h=>h.2.1) (aM m.change) (N6 m 0 rfl (by decide) (whole (aM m.change)))) ?_;refine AL 5 ?_;refine aW (cells:=#[(.int .i64 (m.kind)),(.int .i64 (m.epoch))]) (ab rfl) rfl rfl rfl kM sE rfl rfl rfl (by as_aux_lemma=>kernel_rfl) (λb57=>EN (AL 6 ?_));refine CQ oN (dZ b4 (.slice none 0 0) ([]) (.slice (some ⟨b57,0,none⟩) (2) (2)) [m.kind,m.epoch] (by simp)) (SM [2,1]) (dS 0 rfl rfl rfl rfl) λvR HR hR=>?_
 obtain⟨u1,rfl,rfl⟩:=hR;refine EN (AL 9 ?_);refine CR Il (j6 b4 u1 (bj [m.kind,m.epoch]) m.ballot (by(have:=aV [m.kind,m.epoch]);simp only[BallotT.flat,ViewT.flat,ChangeT.flat,ax,aE,aC,ai]at*;omega)) ID λvR HR hR=>?_
 obtain⟨u2,rfl,rfl⟩:=hR;refine EN (AL 12 ?_);refine CR NB (pD b4 u2 (bj [m.kind,m.epoch]++bj m.ballot.flat) m.change (by(have:=aV [m.kind,m.epoch]);(have:=aV (m.ballot.flat));simp only[BallotT.flat,ViewT.flat,ChangeT.flat,ax,aE,aC,ai]at*;omega)) ID λvR HR hR=>?_
 obtain⟨u3,rfl,rfl⟩:=hR;refine EN (DN (ag (ac J3 (sr λ_ J14=>PS ?_))));refine CR su (eF b4 u3 (bj [m.kind,m.epoch]++bj m.ballot.flat++bj m.change.flat) (by(have:=aV [m.kind,m.epoch]);(have:=aV (m.ballot.flat));(have:=aV (m.change.flat));simp only[BallotT.flat,ViewT.flat,ChangeT.flat,ax,aE,aC,ai]at*;omega)) ID λvR HR hR=>?_
 obtain⟨_,rfl,rfl⟩:=hR;revert vR;intro u4;refine PS ?_;refine nx J14 (aj (WK [2] (aw rfl rfl ?_)));exact⟨_,rfl,congrArg (λb=>[ee u4 b 5]) (show(bj [m.kind,m.epoch]++bj m.ballot.flat++bj m.change.flat)=dF m by simp[dF,eD,fo,bj, *])⟩;refine PS ?_;refine nx J13 (CN (sr λ_ J15=>PS ?_));refine ao ?_ ?_<;>intro h66;refine PS ?_;refine nx J15 (CY (D1 2 bp ?_));refine PD 0 ?_;refine FD 1 0 jD aQ ?_;refine LR 2 Y3 (lj m rfl) ?_;refine FD 5 182 jD bm ?_;refine ta 6 rfl (aO (vs:=ints m.view.flat) rfl eX rfl bm rfl (λ_ h=>h.2.1) (an m.view) (Rc m 0 rfl (by decide) (whole (an m.view)))) ?_;refine AL 3 ?_;refine aW (cells:=#[(.int .i64 (m.kind))]) (ab rfl) rfl rfl rfl kM sE rfl rfl rfl (by as_aux_lemma=>kernel_rfl) (λb70=>EN (AL 4 ?_));refine CQ oN (dZ b4 (.slice none 0 0) ([]) (.slice (some ⟨b70,0,none⟩) (1) (1)) [m.kind] (by simp)) (SM [2,1]) (dS 0 rfl rfl rfl rfl) λvR HR hR=>?_
 obtain⟨u1,rfl,rfl⟩:=hR;refine EN (AL 7 ?_);refine CR NA (rT b4 u1 (bj [m.kind]) m.view (by(have:=aV [m.kind]);simp only[BallotT.flat,ViewT.flat,ChangeT.flat,ax,aE,aC,ai]at*;omega)) ID λvR HR hR=>?_
 obtain⟨u2,rfl,rfl⟩:=hR;refine EN (DN (ag (ac J3 (sr λ_ J16=>PS ?_))));refine CR su (eF b4 u2 (bj [m.kind]++bj m.view.flat) (by(have:=aV [m.kind]);(have:=aV (m.view.flat));simp only[BallotT.flat,ViewT.flat,ChangeT.flat,ax,aE,aC,ai]at*;omega)) ID λvR HR hR=>?_
 obtain⟨_,rfl,rfl⟩:=hR;revert vR;intro u3;refine PS ?_;refine nx J16 (aj (WK [2] (aw rfl rfl ?_)));exact⟨_,rfl,congrArg (λb=>[ee u3 b 5]) (show(bj [m.kind]++bj m.view.flat)=dF m by simp[dF,eD,fo,bj, *])⟩;refine PS ?_;refine nx J15 (CN (aU (ag (ac J3 (sr λ_ J17=>PS ?_)))));refine CR su (eF b4 (.slice none 0 0) ([]) (by simp)) (SM [1,0]) λvR HR hR=>?_
 obtain⟨_,rfl,rfl⟩:=hR;revert vR;intro u1;refine PS ?_;refine nx J17 (aj (WK [2] (aw rfl rfl ?_)));exact⟨_,rfl,congrArg (λb=>[ee u1 b 5]) (show([]:List UInt8)=dF m by simp[dF,eD,fo,bj, *])⟩
open Dsk Wal
theorem oU(who:Int)(hm:cH who=true):DT 34 #[.int .i64 who] T0 [] (dB (λr' H=>∃u,r'=u∧H=[own u 2 [.int .i64 ((who+1)%5), .int .i64 ((who+2)%5)] 3 1])):=by
 have:=qw who;rw[show gJ who=[(who+1)%5,(who+2)%5]by rw[gJ,if_pos hm]]at this;exact this
theorem Fe(r:Nat)(x:RepT)(op err val:Int)(rs:List ReplyT)(hrs:rs.length≤1000000):
 DT 97 #[(.pointer (some ⟨r,0,none⟩)),(.int .i64 (op)),(.int .i64 (err)),(.int .i64 (val))] T0 [am r (RepT.cells x) 123,own x.replies ((rs).length) (ints (List.flatMap ReplyT.flat (rs))) 37 3] (dB (λ_ H=>∃v',v'.oneCell'=true∧H=[am r (RepT.cells {x with replies:=v'}) 123,own v' (rs++[ReplyT.mk op err val]).length (ints (List.flatMap ReplyT.flat (rs++[ReplyT.mk op err val]))) 37 3])):=by
 refine BD 21 Tryz.func97 rfl rfl rfl λw0 F hF=>ae (P3 ?_)
 refine FA 1942 bo y2 ?_;refine LT 0 Lg x.replies ?_ (hc:=by exact RepT.at_replies x rfl);refine P3 ?_;refine tp (zz (cs:=ints (ReplyT.mk op err val).flat) (segs:=[[Value.int .i64 0],[Value.int .i64 0],[Value.int .i64 0]]) (res:=[[Value.int .i64 op],[Value.int .i64 err],[Value.int .i64 val]]) (parts:=[(0,[Value.int .i64 op]),(1,[Value.int .i64 err]),(2,[Value.int .i64 val])]) rfl rfl Tryz.underlying37 (by kernel_rfl) (by kernel_rfl) rfl (fH rfl rfl (fH rfl rfl (fH rfl rfl mq))) (ReplyT.eq (ReplyT.mk op err val)).symm) ?_;refine aW (cells:=(ints (ReplyT.mk op err val).flat).toArray) (ab rfl) rfl rfl rfl Lg IF rfl rfl rfl (nr (ReplyT.len (ReplyT.mk op err val)) (by simp)) (λb17=>?_);change TL _ _ _ _ _ _ _ _ _ [am b17 (ints (ReplyT.mk op err val).flat) 37,am r (RepT.cells x) 123,own x.replies ((rs).length) (ints (List.flatMap ReplyT.flat (rs))) 37 3];refine cS (k:=2) (news:=ints (ReplyT.mk op err val).flat) (nn':=(rs++[ReplyT.mk op err val]).length) (xs':=ints (List.flatMap ReplyT.flat (rs++[ReplyT.mk op err val]))) (ab rfl) rfl rfl rfl Lg IF rfl rfl rfl rfl rfl rfl (λ_ _=>kj (ReplyT.len _) (RO 0) (by rw[ba,iY])) (bF _) (by simp only[maxLen];omega) (by omega) (by simp) (by simp[ints]) (λv18 ov18=>PS ?_);refine FA 1942 bo y2 ?_;exact bI (i:=1) (ab rfl) rfl rfl rfl rfl ov18 y2 rfl rfl (LB (c8 _)) (RepT.set_replies x rfl _) rfl (au (WK [1,1] (bG rfl ⟨_,ov18,rfl⟩)))
theorem HV(r:Nat)(x:RepT):
 DT 33 #[(.pointer (some ⟨r,0,none⟩))] T0 [am r (RepT.cells x) 123] (RI (.agg (ints x.own.flat).toArray) [am r (RepT.cells x) 123]):=by
 refine BD 7 Tryz.func33 rfl rfl rfl λw0 F hF=>sr λ_ J1=>XZ uB (ints RowT.zero.flat) λb2=>?_
 refine nx J1 (sr λ_ J2=>P2 ?_);refine FA 9 bo bg ?_;refine LV 1 dV bg ah Ev (y:=x.own) ?_;refine SW 0 bg ah ?_;refine nx J2 (aj (RC 0 [1] dV bg (ah _) ?_));exact⟨rfl,rfl⟩
theorem Fi(r:Nat)(x:RepT):
 DT 21 #[(.pointer (some ⟨r,0,none⟩))] T0 [am r (RepT.cells x) 123] (RI (.agg (ints x.view.flat).toArray) [am r (RepT.cells x) 123]):=by
 refine BD 7 Tryz.func21 rfl rfl rfl λw0 F hF=>sr λ_ J1=>XZ sY (ints ViewT.zero.flat) λb2=>?_
 refine nx J1 (sr λ_ J2=>P2 ?_);refine FA 2 bo bm ?_;refine LV 1 eX bm an c7 (y:=x.view) ?_;refine SW 0 bm an ?_;refine nx J2 (aj (RC 0 [1] eX bm (an _) ?_));exact⟨rfl,rfl⟩
theorem xL(r:Nat)(x:RepT)(who:Int):
 DT 42 #[(.pointer (some ⟨r,0,none⟩)),(.int .i64 (who))] T0 [am r (RepT.cells x) 123] (RI (.tuple #[.agg (ints (cb x.mirror who).flat).toArray, .bool (fy x.mirror who)]) [am r (RepT.cells x) 123]):=by
 refine BD 16 Tryz.func42 rfl rfl rfl λw0 F hF=>sr λ_ J1=>XZ uB (ints RowT.zero.flat) λb4=>?_
 refine PS ?_;refine nx J1 (aa λ_ J2=>D0 bp ?_);refine PD 0 ?_;refine PD 1 ?_;refine FD 2 183 bo o9 ?_;refine PD 3 ?_;refine PD 5 ?_;refine PD 6 ?_;refine FD 7 183 bo o9 ?_;refine PD 8 ?_;refine AL 4 ?_;refine CE JP (mz r 183 123 (λu=>RepT.cells {x with mirror:=u}) (el x) x.mirror who) (SM [1]) ?_;refine EN (AL 9 ?_);refine CE NE (nV r 183 123 (λu=>RepT.cells {x with mirror:=u}) (el x) x.mirror who) ID ?_;refine EN (AL 10 ?_);refine SW 1 bg ah ?_;refine EN (PD 11 ?_);refine DN (ac J2 (aj (RT 1 [0] dV bg (ah _) ?_)));exact⟨rfl,rfl⟩
theorem Bm(r:Nat)(x:RepT)(rs:List ReplyT)(hrs:rs.length≤1000000):
 DT 19 #[(.pointer (some ⟨r,0,none⟩))] T0 [am r (RepT.cells x) 123,own x.replies ((rs).length) (ints (List.flatMap ReplyT.flat (rs))) 37 3] (dB (λr' H=>∃u,r'=u∧H=[am r (RepT.cells x) 123,own x.replies rs.length (ints (List.flatMap ReplyT.flat rs)) 37 3,own u rs.length (ints (List.flatMap ReplyT.flat rs)) 37 3])):=by
 refine BD 8 Tryz.func19 rfl rfl rfl λw0 F hF=>sr λ_ J1=>PL 37 3 (λ_=>PS ?_)
 refine nx J1 (sr λ_ J2=>P2 ?_);refine FA 1942 bo y2 ?_;refine LT 1 Lg x.replies ?_ (hc:=by exact RepT.at_replies x rfl);refine cS (k:=0) (news:=ints (List.flatMap ReplyT.flat rs)) (nn':=rs.length) (xs':=ints (List.flatMap ReplyT.flat rs)) (ab rfl) rfl rfl rfl Lg IF rfl rfl rfl rfl rfl rfl (λ_ s=>Rt 2 rfl rfl s) (bF _) (by simp only[maxLen];omega) (by omega) (by simp) (by simp) (λv7 ov7=>PS ?_);exact nx J2 (aj (WK [1,1,0] (aw rfl rfl ⟨_,rfl,rfl⟩)))
end Go.Proofs.YtjblgopghhgflaaGreat
end

section
namespace Api
open Go Leg Codec Dsk Wal
def fq(w:Int)(x:RowT):RecT:= {RecT.zero with kind:=1,whose:=w,row:=x}
def gS(w:Int):RecT:= {RecT.zero with kind:=2,whose:=w}
def j7(v:ViewT):RecT:= {RecT.zero with kind:=5,view:=v}
def oz(v:Int):MsgT:= {MsgT.zero with kind:=1,version:=v}
def fZ(w:Int)(x:RowT):MsgT:= {MsgT.zero with kind:=9,whose:=w,row:=x}
section
variable {x:RepT} {from' w:Int} {y:RowT} {recs:List (List UInt8)}
end
section
variable {x:RepT} {from' w:Int} {v:ViewT} {recs:List (List UInt8)}
end
end Api
end

section
namespace Go.Proofs.YtjblgopghhgflaaGreat
open Go Leg Codec Api Dsk Wal
theorem H3(r:Nat)(x:RepT)(o:OpT):
 DT 96 #[(.pointer (some ⟨r,0,none⟩)),(.agg (ints o.flat).toArray)] T0 [am r (RepT.cells x) 123] (RI (.tuple #[.agg (ints (kF x o).1.flat).toArray, .int .i64 (kF x o).2.1, .int .i64 (kF x o).2.2]) [am r (RepT.cells x) 123]):=by
 refine BD 121 Tryz.func96 rfl rfl rfl λw0 F hF=>sr λ_ J1=>XY (ints o.flat) λb3=>?_
 refine XZ uB (ints RowT.zero.flat) λb4=>?_
 refine P2 ?_;refine nx J1 (aa λ_ J2=>aa λ_ J3=>D1 2 bp ?_);refine PD 0 ?_;refine PD 1 ?_;refine FD 2 2 bo bm ?_;refine ta 3 rfl (aO (vs:=ints x.view.flat) rfl eX rfl bm rfl (λ_ h=>h.2.1) (an x.view) (gA x 0 rfl (by decide) (whole (an x.view)))) ?_;refine PD 4 ?_;refine PD 5 ?_;refine FD 6 0 bo aQ ?_;refine LR 7 Y3 (cN x rfl) ?_;refine AL 8 ?_;refine CE qR (dP x.view x.id) ID ?_;refine bf ?_ ?_<;>intro h17;refine EN (PD 9 ?_);refine DN (ac J3 (CN (qx J2 (aa λ_ J4=>sr λ_ J5=>FA 3 gh aQ ?_))));refine LU 1 Y3 (qp o rfl) ?_;refine PS ?_;refine ao ?_ ?_<;>intro h22;have hkb:np o.key=false:=decide_eq_false (by omega);refine PS ?_
 iterate 3 refine UT ?_
 refine PS ?_;refine nx J5 (CY (sr λ_ J6=>BV ((ints RowT.zero.flat).toArray) ?_));refine SW 0 bg ah ?_;refine P2 ?_;refine nx J6 (aj (af (RU 0 [2] dV bg (ah _) ?_)));exact⟨by simp[kF,gF, *],rfl⟩;refine PS ?_;refine FA 3 gh aQ ?_;refine LU 1 Y3 (qp o rfl) ?_;refine PS ?_;refine ao ?_ ?_<;>intro h26;have hkb:np o.key=false:=decide_eq_false (by omega);refine PS ?_;refine nx J5 (CY (sr λ_ J7=>BV ((ints RowT.zero.flat).toArray) ?_));refine SW 0 bg ah ?_;refine P2 ?_;refine nx J7 (aj (af (RU 0 [2] dV bg (ah _) ?_)));exact⟨by simp[kF,gF, *],rfl⟩;have hkb:np o.key=true:=decide_eq_true (by omega);refine PS ?_;refine nx J5 (CN (qx J4 (aa λ_ J8=>sr λ_ J9=>FA 0 gh aQ ?_)));refine LU 1 Y3 (dh o rfl) ?_;refine PS ?_;refine ao ?_ ?_<;>intro h31;refine nx J9 (CY (aa λ_ J10=>D1 1 bp ?_));refine ta 0 rfl (kP (cells:=(ints RowT.zero.flat).toArray) rfl rfl (by as_aux_lemma=>kernel_rfl)) ?_;refine PD 1 ?_;refine PD 2 ?_;refine FD 3 1068 bo xg ?_;refine FD 4 3 gh aQ ?_;refine LR 5 Y3 (qp o rfl) ?_;refine AL 6 ?_;refine CE ON (qZ r 1068 123 (λu=>RepT.cells {x with book:=u}) (ii x) x.book o.key) (SM [2]) ?_;refine EN (AL 7 ?_);refine SW 1 bg ah ?_;refine EN (PD 8 ?_);refine PD 9 ?_;refine DN (ac J10 (aj (af (RU 1 [0] dV bg (ah _) ?_))));exact⟨by simp[kF,gF, *],rfl⟩;refine nx J9 (CN (qx J8 (aa λ_ J11=>sr λ_ J12=>P2 ?_)));refine FA 1938 bo lP ?_;refine LU 2 Y4 (zw x rfl) ?_;refine bf ?_ ?_<;>intro h42
 refine nx J12 (CY (sr λ_ J13=>BV ((ints RowT.zero.flat).toArray) ?_));refine SW 0 bg ah ?_;refine P2 ?_;refine nx J13 (aj (af (RU 0 [2] dV bg (ah _) ?_)));exact⟨by simp[kF,gF, *],rfl⟩;refine nx J12 (CN (qx J11 (sr λ_ J14=>XZ uB (ints RowT.zero.flat) λb7=>?_)));refine nx J14 (sr λ_ J15=>PS ?_);refine nx J15 (aa λ_ J16=>sr λ_ J17=>FA 0 gh aQ ?_);refine LU 2 Y3 (dh o rfl) ?_;refine nx J17 (aq (sr λ_ J18=>PS ?_));refine ao ?_ ?_<;>intro h47;refine PS ?_;refine nx J18 (CY (D2 3 2 bp ?_));refine PD 0 ?_;refine PD 1 ?_;refine FD 2 9 bo bg ?_;refine ta 3 rfl (aO (vs:=ints x.own.flat) rfl dV rfl bg rfl (λ_ h=>h.2.1) (ah x.own) (zu x 0 rfl (by decide) (whole (ah x.own)))) ?_;refine FD 4 3 gh aQ ?_;refine LR 5 Y3 (qp o rfl) ?_;refine FD 6 4 gh aQ ?_;refine LR 7 Y3 (yS o rfl) ?_;refine AL 8 ?_;refine CE Pj (Db x.own o.key o.n) ID ?_;refine EN (PD 9 ?_);refine PD 10 ?_;refine PD 11 ?_;refine AL 12 ?_;refine SW 0 bg ah ?_;refine EN (PD 13 ?_);refine DN (ag (ac J16 (aa λ_ J19=>sr λ_ J20=>P2 ?_)));refine ao ?_ ?_<;>intro h98;refine nx J20 (CY (sr λ_ J21=>BV ((ints RowT.zero.flat).toArray) ?_));refine PS ?_;refine SW 1 bg ah ?_;refine P2 ?_;refine nx J21 (aj (af (RU 1 [3] dV bg (ah _) ?_)));exact⟨by simp[kF,gF, *],rfl⟩;refine nx J20 (CN (qx J19 (aa λ_ J22=>aa λ_ J23=>D2 2 3 bp ?_)));refine FD 0 0 gh aQ ?_;refine LR 1 Y3 (dh o rfl) ?_;refine PD 2 ?_;refine iK ?_ ?_<;>intro h103
 · exact absurd h47 h103
 refine PD 3 ?_;refine NT 4 ?_;refine NT 5 ?_;refine NT 6 ?_;refine NT 7 ?_;refine NT 8 ?_;refine NT 9 ?_;refine NT 10 ?_;refine NT 11 ?_;refine NT 12 ?_;refine NT 13 ?_;refine NT 14 ?_;refine NT 15 ?_;refine NT 16 ?_;refine PD 17 ?_;refine DN (ac J23 (CN (qx J22 (sr λ_ J24=>LW 0 dV bg ah ?_))));refine SW 1 bg ah ?_;refine P2 ?_;refine nx J24 (aj (RU 1 [3] dV bg (ah _) ?_));exact⟨by simp[kF,gF, *],rfl⟩;refine PS ?_;refine nx J18 (CN (sr λ_ J25=>PS ?_));refine ao ?_ ?_<;>intro h61;refine PS ?_;refine nx J25 (CY (D2 3 2 bp ?_));refine PD 0 ?_;refine PD 1 ?_;refine FD 2 9 bo bg ?_;refine ta 3 rfl (aO (vs:=ints x.own.flat) rfl dV rfl bg rfl (λ_ h=>h.2.1) (ah x.own) (zu x 0 rfl (by decide) (whole (ah x.own)))) ?_;refine FD 4 3 gh aQ ?_;refine LR 5 Y3 (qp o rfl) ?_;refine FD 6 4 gh aQ ?_;refine LR 7 Y3 (yS o rfl) ?_;refine AL 8 ?_;refine CE Pi (Dc x.own o.key o.n) ID ?_;refine EN (PD 9 ?_);refine PD 10 ?_;refine PD 11 ?_;refine AL 12 ?_;refine SW 0 bg ah ?_;refine EN (PD 13 ?_);refine DN (ag (ac J16 (aa λ_ J26=>sr λ_ J27=>P2 ?_)));refine ao ?_ ?_<;>intro h98;refine nx J27 (CY (sr λ_ J28=>BV ((ints RowT.zero.flat).toArray) ?_));refine PS ?_;refine SW 1 bg ah ?_;refine P2 ?_;refine nx J28 (aj (af (RU 1 [3] dV bg (ah _) ?_)));exact⟨by simp[kF,gF, *],rfl⟩;refine nx J27 (CN (qx J26 (aa λ_ J29=>aa λ_ J30=>D2 2 3 bp ?_)));refine FD 0 0 gh aQ ?_;refine LR 1 Y3 (dh o rfl) ?_;refine PD 2 ?_;refine iK ?_ ?_<;>intro h103;refine PD 3 ?_
 refine PD 4 ?_;refine PD 5 ?_;refine FD 6 1068 bo xg ?_;refine PD 7 ?_;refine PD 8 ?_;refine FD 9 0 bo aQ ?_;refine LR 10 Y3 (cN x rfl) ?_;refine FD 11 3 gh aQ ?_;refine LR 12 Y3 (qp o rfl) ?_;refine FD 14 4 gh aQ ?_;refine LR 15 Y3 (yS o rfl) ?_;refine AL 13 ?_;refine CE OH (qc r 1068 123 (λu=>RepT.cells {x with book:=u}) (ii x) x.book x.id o.key) (SM [3]) ?_;refine EN (PD 16 ?_);refine iK ?_ ?_<;>intro h117;refine PD 17 ?_;refine DN (ac J30 (CY (sr λ_ J31=>BV ((ints RowT.zero.flat).toArray) ?_)));refine SW 2 bg ah ?_;refine P2 ?_;refine nx J31 (aj (af (RU 2 [0] dV bg (ah _) ?_)));exact⟨by simp[kF,gF, *],rfl⟩;refine PD 17 ?_;refine DN (ac J30 (CN (qx J29 (sr λ_ J32=>LW 1 dV bg ah ?_))));refine SW 2 bg ah ?_;refine P2 ?_;refine nx J32 (aj (RU 2 [0] dV bg (ah _) ?_));exact⟨by simp[kF,gF, *],rfl⟩
 · exact absurd h47 h103
 refine PS ?_;refine nx J25 (CN (sr λ_ J33=>PS ?_));refine ao ?_ ?_<;>intro h75;refine PS ?_;refine nx J33 (CY (aa λ_ J34=>D2 2 3 bp ?_));refine FD 0 2 gh aQ ?_;refine LR 1 Y3 (ji o rfl) ?_;refine PD 2 ?_;refine PD 3 ?_;refine FD 4 0 bo aQ ?_;refine LR 5 Y3 (cN x rfl) ?_;refine PD 6 ?_;refine iK ?_ ?_<;>intro h82;refine DN (ac J34 (CY (D2 3 2 bp ?_)));refine PD 0 ?_;refine PD 1 ?_;refine FD 2 9 bo bg ?_;refine ta 3 rfl (aO (vs:=ints x.own.flat) rfl dV rfl bg rfl (λ_ h=>h.2.1) (ah x.own) (zu x 0 rfl (by decide) (whole (ah x.own)))) ?_;refine FD 4 3 gh aQ ?_;refine LR 5 Y3 (qp o rfl) ?_;refine FD 6 4 gh aQ ?_;refine LR 7 Y3 (yS o rfl) ?_;refine FD 8 2 gh aQ ?_;refine LR 9 Y3 (ji o rfl) ?_;refine AL 10 ?_;refine CE Ph (Bk x.own o.key o.n o.to') ID ?_;refine EN (PD 11 ?_);refine PD 12 ?_;refine PD 13 ?_;refine AL 14 ?_;refine SW 0 bg ah ?_;refine EN (PD 15 ?_);refine DN (ag (ac J16 (aa λ_ J35=>sr λ_ J36=>P2 ?_)));refine ao ?_ ?_<;>intro h98;refine nx J36 (CY (sr λ_ J37=>BV ((ints RowT.zero.flat).toArray) ?_));refine PS ?_;refine SW 1 bg ah ?_;refine P2 ?_;refine nx J37 (aj (af (RU 1 [3] dV bg (ah _) ?_)));exact⟨by simp[kF,gF, *],rfl⟩;refine nx J36 (CN (qx J35 (aa λ_ J38=>aa λ_ J39=>D2 2 3 bp ?_)));refine FD 0 0 gh aQ ?_;refine LR 1 Y3 (dh o rfl) ?_;refine PD 2 ?_;refine iK ?_ ?_<;>intro h103;refine PD 3 ?_;refine PD 4 ?_;refine PD 5 ?_;refine FD 6 1068 bo xg ?_;refine PD 7 ?_;refine PD 8 ?_;refine FD 9 0 bo aQ ?_
 refine LR 10 Y3 (cN x rfl) ?_;refine FD 11 3 gh aQ ?_;refine LR 12 Y3 (qp o rfl) ?_;refine FD 14 4 gh aQ ?_;refine LR 15 Y3 (yS o rfl) ?_;refine AL 13 ?_;refine CE OH (qc r 1068 123 (λu=>RepT.cells {x with book:=u}) (ii x) x.book x.id o.key) (SM [3]) ?_;refine EN (PD 16 ?_);refine iK ?_ ?_<;>intro h117;refine PD 17 ?_;refine DN (ac J39 (CY (sr λ_ J40=>BV ((ints RowT.zero.flat).toArray) ?_)));refine SW 2 bg ah ?_;refine P2 ?_;refine nx J40 (aj (af (RU 2 [0] dV bg (ah _) ?_)));exact⟨by simp[kF,gF, *],rfl⟩;refine PD 17 ?_;refine DN (ac J39 (CN (qx J38 (sr λ_ J41=>LW 1 dV bg ah ?_))));refine SW 2 bg ah ?_;refine P2 ?_;refine nx J41 (aj (RU 2 [0] dV bg (ah _) ?_));exact⟨by simp[kF,gF, *],rfl⟩
 · exact absurd h47 h103
 refine DN (ac J34 (CN (aU (ag (ac J16 (aa λ_ J42=>sr λ_ J43=>P2 ?_))))));refine nx J43 (CY (sr λ_ J44=>BV ((ints RowT.zero.flat).toArray) ?_));refine PS ?_;refine SW 1 bg ah ?_;refine P2 ?_;refine nx J44 (aj (af (RU 1 [3] dV bg (ah _) ?_)));exact⟨by simp[kF,gF, *],rfl⟩;refine PS ?_;refine nx J33 (CN (aU (ag (ac J16 (aa λ_ J45=>sr λ_ J46=>P2 ?_)))));refine nx J46 (CY (sr λ_ J47=>BV ((ints RowT.zero.flat).toArray) ?_));refine PS ?_;refine SW 1 bg ah ?_;refine P2 ?_;refine nx J47 (aj (af (RU 1 [3] dV bg (ah _) ?_)));exact⟨by simp[kF,gF, *],rfl⟩;refine EN (PD 9 ?_);refine DN (ac J3 (CY (sr λ_ J48=>BV ((ints RowT.zero.flat).toArray) ?_)));refine SW 0 bg ah ?_;refine P2 ?_;refine nx J48 (aj (af (RU 0 [2] dV bg (ah _) ?_)));exact⟨by simp[kF,gF, *],rfl⟩
theorem FI(x:Value)(l:List Int)(v:Int)(hl:l.length≤1000000):
    DT 179 #[x,(.int .i64 (v))] (IsI .i64 x l) [] (dB (λr' H=>∃n:Int,r'= .int .i64 n∧(decide (n≥0)=true↔v∈l)∧H=[])):=by
 refine BD 19 Tryz.func179 rfl rfl rfl λw0 F hF=>sr λ_ J1=>PS ?_
 refine nx J1 (aa λ_ J2=>sr λ_ J3=>PS ?_);refine tp (ef rfl kM rfl hF.len) ?_;refine PS ?_;refine nx J3 (aq ?_)
 refine bA (α:=(Nat)) (λk=>k≤l.length∧∀(j:Nat),j<k→l.getD j 0≠v) (λk=>[(0,x),(1,(.int .i64 (v))),(7,(.int .i64 (((l.length:Nat):Int)))),(8,(.int .i64 (((k:Nat):Int))))]) (λk=>[]) (λk=>l.length-k) 0
     ⟨aN _,λj h=>absurd h (by omega)⟩ SB
     (λ_ s=>s) (λk hinv=>?_)
 obtain⟨hk,hv⟩:=hinv;refine sr λ_ J4=>PS ?_
 refine ao ?_ ?_<;>intro h9;obtain⟨b_a,off_a,cap_a,cs_a,T_a,z_a,hv_a,hb_a,hcs_a,hcp_a⟩:=IsI.at hF (j:=k) (by omega);refine nx J4 (aa λ_ J5=>CY (qx J5 (aa λ_ J6=>aq (sr λ_ J7=>P2 ?_))));refine nx J7 (sr λ_ J8=>P3 ?_);refine tp (bU (r:=off_a+k) hv_a rfl kM aQ rfl rfl (by omega) (by omega) (by omega)) ?_;refine tp (dr (v:=(.int .i64 ((l.getD k 0)))) rfl Y3 rfl rfl (ED hb_a (λ_ h=>fN h)) hcs_a) ?_;refine PS ?_;refine ao ?_ ?_<;>intro h16;refine nx J8 (CY (sr λ_ J9=>P2 ?_));refine nx J9 (aj (aL (af (af (aL (af (WK [] (aw rfl rfl ?_))))))));exact⟨((k:Nat):Int),rfl,by rw[decide_eq_true_iff];exact⟨λ_=>by rw[h16,List.getD_eq_getElem?_getD,List.getElem?_eq_getElem (by omega)];exact ey _,λ_=>by omega⟩,rfl⟩;refine nx J8 (CN (aU (ag (ac J6 (ae (AD ?_))))));refine PS ?_;refine au ?_
 exact aK ((k+1):(Nat)) ⟨by omega,λj hj=>by
        by_cases q:j=k
        · subst q;exact λe=>h16 e.symm
        · exact hv j (by omega)⟩ (by show l.length- (k+1)<l.length-k;omega)
   SB
   (λ_ s=>s)
 refine nx J4 (aa λ_ J10=>CN (aX (aA (aA (bu (ac J2 (sr λ_ J11=>PS ?_)))))));refine nx J11 (aj (WK [] (aw rfl rfl ?_)))
 exact⟨-1,rfl,by
      rw[decide_eq_true_iff];constructor
      · intro h;omega
      · intro h
        obtain⟨j,hj,e⟩:=fM h;have:=hv j (by omega);rw[List.getD_eq_getElem?_getD,List.getElem?_eq_getElem hj]at this
        exact absurd e this,rfl⟩
theorem rQ(x:Value)(l:List Int)(v:Int)(hl:l.length≤1000000):
 DT 168 #[x,(.int .i64 (v))] (IsI .i64 x l) [] (RI (.bool (decide (v∈l))) []):=by
 refine BD 9 Tryz.func168 rfl rfl rfl λw0 F hF=>sr λ_ J1=>PS ?_
 refine nx J1 (sr λ_ J2=>P2 ?_);refine CQ OT (FI x l v hl) ID (λ_ d _=>IsI.more hF d) λvR HR hR=>?_
 obtain⟨n,rfl,hn,rfl⟩:=hR;refine P2 ?_;refine nx J2 (aj (WK [] (aw rfl rfl ?_)));exact⟨congrArg Value.bool (by rw[AQ,hn,decide_eq_true_iff]),rfl⟩
end Go.Proofs.YtjblgopghhgflaaGreat
end

section
namespace Api
open Go Leg Codec
theorem ym: ∀(a b:List CellT),a.length=b.length→bN a=bN b→a=b
 | [],[],_,_=>rfl
 | [],_::_,h,_=>by cases h
 |_::_,[],h,_=>by cases h
 |x::a,y::b,h,e=>by
  simp only[bN,db]at e;obtain⟨h1,h2⟩:=List.append_inj e (by simp[CellT.flat]);rw[II h1,ym a b (by simpa using h) h2]
theorem Aq{v w:Vector CellT 4}(h:bN v.toList=bN w.toList):v=w:=Vector.toList_inj.1 (ym _ _ (by simp) h)
theorem wZ{n:Int}(h:(Lit.int .i64 n).wf=true): -9223372036854775808≤n∧n<9223372036854775808:=by
 have m1:IntKind.i64.min= -9223372036854775808:=by decide
 have m2:IntKind.i64.max=9223372036854775807:=by decide
 simp only[Lit.wf,m1,m2,av,decide_eq_true_eq]at h;omega
theorem s7{n:Int}{l:List Int}(h:0≤n∧n<9223372036854775808)(hl:WF l):WF (n::l):=λm hm=>by
 rcases cA.1 hm with rfl|hm
 · exact s6 h
 · exact hl m hm
theorem mP{a b:List Int}(ha:WF a)(hb:WF b):WF (a++b):=λm hm=>by
 rcases bS.1 hm with hm|hm
 · exact ha m hm
 · exact hb m hm
theorem Jb:WF []:=λ_ h=>by cases h
theorem OkB.wf{b:BallotT}(h:OkB b):WF b.flat:=s7 h.1 (s7 ⟨h.2.1,by have:=h.2.2;omega⟩ Jb)
theorem OkC.wf{c:ChangeT}(h:OkC c):WF c.flat:=s7 ⟨h.1.1,by have:=h.1.2;omega⟩ (s7 ⟨h.2.1.1,by have:=h.2.1.2;omega⟩ (s7 ⟨h.2.2.1,by have:=h.2.2.2;omega⟩ Jb))
theorem wN:Nm 0:=⟨by decide,by decide⟩
theorem OkB.zero:OkB .zero:=⟨wN,by decide,by decide⟩
theorem OkC.zero:OkC .zero:=⟨by decide,by decide,by decide⟩
theorem OkV.zero:OkV .zero:=⟨wN,by decide,λi h=>by have:=Rng.zero i h;omega⟩
theorem tZ(m:MsgT):(cq m).length≤3000:=by
 have h1:=iX m.row;have h2:=aV m.ballot.flat;have h3:=aV m.had.flat;have h4:=aV m.change.flat;have h5:=aV m.view.flat;have h6:=aV [m.kind,m.whose];have h7:=aV [m.kind,m.version];have h8:=aV [m.kind,m.epoch];have h9:=aV [m.kind];simp only[BallotT.flat,ChangeT.flat,ViewT.flat,ax,aE,aC]at h2 h3 h4 h5 h6 h7 h8 h9;unfold cq;split
 · simp only[ai];omega
 split
 · omega
 split
 · simp only[ai,BallotT.flat];omega
 split
 · simp only[ai,BallotT.flat,ChangeT.flat];omega
 split
 · simp only[ai,BallotT.flat,ChangeT.flat];omega
 split
 · simp only[ai,ViewT.flat];omega
 split
 · simp only[ai,ViewT.flat];omega
 · simp
theorem IP{m:RecT}(h:OkRc m):dF (qa m)=dF m:=by
 have hk:=h.kind;unfold qa;split
 · rename_i c;simp only[dF,if_pos c]
 split
 · rename_i c0 c;simp only[dF,if_neg c0,if_pos c]
 split
 · rename_i c0 c1 c;simp only[dF,if_neg c0,if_neg c1,if_pos c]
 split
 · rename_i c0 c1 c2 c;simp only[dF,if_neg c0,if_neg c1,if_neg c2,if_pos c]
 split
 · rename_i c0 c1 c2 c3 c;simp only[dF,if_neg c0,if_neg c1,if_neg c2,if_neg c3,if_pos c]
 · rename_i c0 c1 c2 c3 c4;simp only[dF,if_neg c0,if_neg c1,if_neg c2,if_neg c3,if_neg c4]
theorem KB{m:RecT}(h:OkRc m)(ho:wx m=true):cW (dF (qa m))=(qa m,0):=by
 have:=LL h [];rw[ho,aR]at this;unfold cW;rw[IP h,this]
theorem ou:eH RowT.zero=true:=by decide+kernel
theorem L5{m:MsgT}{bs r:List UInt8}(h:cM bs=some ((m,true),r)):eH m.row=true:=by
 obtain⟨k,r1,_,h⟩:=aY h;split at h
 · obtain⟨_,_,_,h⟩:=aY h
   obtain⟨_,_,_,h⟩:=aY h;obtain⟨e,_⟩:=fQ h;injection e with e1 e2;subst e1;exact e2
 have fin: ∀{m':MsgT} {g:Bool} {b r:List UInt8},pr (m',g) b=some ((m,true),r)→m'.row= .zero→eH m.row=true:=λh e=>by
  obtain⟨e',_⟩:=fQ h;injection e' with e1 e2;subst e1;rw[e];exact ou
 split at h
 · obtain⟨_,_,_,h⟩:=aY h;exact fin h rfl
 split at h
 · obtain⟨_,_,_,h⟩:=aY h;obtain⟨_,_,_,h⟩:=aY h;exact fin h rfl
 split at h
 · obtain⟨_,_,_,h⟩:=aY h;obtain⟨_,_,_,h⟩:=aY h;obtain⟨_,_,_,h⟩:=aY h;obtain⟨_,_,_,h⟩:=aY h;exact fin h rfl
 split at h
 · obtain⟨_,_,_,h⟩:=aY h;obtain⟨_,_,_,h⟩:=aY h;obtain⟨_,_,_,h⟩:=aY h;exact fin h rfl
 split at h
 · obtain⟨_,_,_,h⟩:=aY h;exact fin h rfl
 split at h
 · obtain⟨_,_,_,h⟩:=aY h;obtain⟨_,_,_,h⟩:=aY h;exact fin h rfl
 · exact fin h rfl
theorem LK{m:RecT}{bs r:List UInt8}(h:di bs=some ((m,true),r)):eH m.row=true:=by
 obtain⟨k,r1,_,h⟩:=aY h;split at h
 · obtain⟨_,_,_,h⟩:=aY h
   obtain⟨e,_⟩:=fQ h;injection e with e1 e2;subst e1;exact e2
 split at h
 · obtain⟨_,_,_,h⟩:=aY h
   obtain⟨_,_,_,h⟩:=aY h;obtain⟨e,_⟩:=fQ h;injection e with e1 e2;subst e1;exact e2
 have fin: ∀{m':RecT} {g:Bool} {b r:List UInt8},pr (m',g) b=some ((m,true),r)→m'.row= .zero→eH m.row=true:=λh e=>by
  obtain⟨e',_⟩:=fQ h;injection e' with e1 e2;subst e1;rw[e];exact ou
 split at h
 · obtain⟨_,_,_,h⟩:=aY h;exact fin h rfl
 split at h
 · obtain⟨_,_,_,h⟩:=aY h;obtain⟨_,_,_,h⟩:=aY h;exact fin h rfl
 split at h
 · obtain⟨_,_,_,h⟩:=aY h;obtain⟨_,_,_,h⟩:=aY h;obtain⟨_,_,_,h⟩:=aY h;exact fin h rfl
 split at h
 · obtain⟨_,_,_,h⟩:=aY h;exact fin h rfl
 · exact fin h rfl
theorem Ea(bs:List UInt8):(∃m,eT bs=(m,0)∧bs=cq m∧eH m.row=true∧WF m.row.flat∧cM bs=some ((m,true),[]))∨eT bs=(.zero,1):=by
 unfold eT;split
 · rename_i m h
   obtain⟨h1,_,_,_,h5⟩:=xV h;rw[aR]at h1;exact .inl ⟨m,rfl,h1,L5 h,h5.wf,h⟩
 · exact .inr rfl
theorem yz(bs:List UInt8):(∃m,cW bs=(m,0)∧bs=dF m∧eH m.row=true∧WF m.row.flat)∨cW bs=(.zero,1):=by
 unfold cW;split
 · rename_i m h
   obtain⟨h1,_,_,_,h5⟩:=xF h;rw[aR]at h1;exact .inl ⟨m,rfl,h1,LK h,h5.wf⟩
 · exact .inr rfl
open Dsk Wal
structure RcOk(m:RecT):Prop where
 dec:cW (dF m)=(m,0)
 wf:WF m.row.flat
 kind:m.kind≠3∧m.kind≠4
end Api
end

section
namespace Go.Proofs.YtjblgopghhgflaaGreat
open Go Leg Codec Api
theorem xI(ob:Nat)(ok:Bool):DoesD Tryz.prog 120 #[(.pointer (some ⟨ob,0,none⟩))] (.returning) (λ_=>True) [am ob [(.bool (ok))] 4] (λe u' H=>e= .returned (.tuple #[])∧settle u'= .returning∧H=[am ob [.bool ok] 4]):=by
 refine DoesD.recover2 (vs:=[(.pointer (some ⟨ob,0,none⟩))]) (n:=15) (u':= .returning) (rv:= .nilIface) Tryz.func120 rfl rfl rfl rfl rfl rfl rfl rfl rfl rfl rfl (λc0 cs hu=>by cases c0;simp only at hu;subst hu;rfl) (λw0 F c0 cs hF=>?_);refine aa (λK1 hK1=>?_);refine aa (λK2 hK2=>?_);refine ae ?_;refine mF (ab rfl) rfl rfl (kA rfl rfl) ?_;refine mF (ab rfl) rfl rfl (PV.nilNil rfl Tryz.underlying20 rfl) ?_;refine au ?_;refine ac hK2 ?_;clear hK2;refine oh rfl ?_;refine aj ?_;refine af ?_;clear hK1;refine aF (dE _) (λ_ s=>ak [0] rfl s) ?_;refine TE.retS0 rfl ?_;refine⟨rfl,rfl,?_⟩;rfl
theorem Bp(ob:Nat)(ok:Bool):DoesD Tryz.prog 120 #[(.pointer (some ⟨ob,0,none⟩))] (.panicking iW) (λ_=>True) [am ob [(.bool (ok))] 4] (λe u' H=>e= .returned (.tuple #[])∧settle u'= .returning∧H=[am ob [.bool false] 4]):=by
 refine DoesD.recover2 (vs:=[(.pointer (some ⟨ob,0,none⟩))]) (n:=15) (u':= .panicking [{v:=(.iface 199 (.agg #[])),recovered:=true}]) (rv:=(.iface 199 (.agg #[]))) Tryz.func120 rfl rfl rfl rfl rfl rfl rfl rfl rfl rfl rfl (λc0 cs hu=>by cases c0;simp only at hu;subst hu;rfl) (λw0 F c0 cs hF=>?_);refine aa (λK1 hK1=>?_);refine aa (λK2 hK2=>?_);refine ae ?_;refine mF (ab rfl) rfl rfl (kA rfl rfl) ?_;refine mF (ab rfl) rfl rfl (PV.ifaceNil rfl Tryz.underlying20 rfl) ?_;refine au ?_;refine ac hK2 ?_;clear hK2;refine Hb rfl ?_;refine aU ?_;refine ac hK1 ?_;clear hK1;refine aa (λK3 hK3=>?_);refine aa (λK4 hK4=>?_);refine ae ?_;refine mF (ab rfl) rfl rfl (kA rfl rfl) ?_;refine mF (ab rfl) rfl rfl (PV.assert rfl I2 rfl rfl) ?_;refine mF (ab rfl) rfl rfl (kA rfl rfl) ?_;refine mF (ab rfl) rfl rfl (mJ (vs:=[.agg #[], .bool true]) rfl rfl rfl) ?_;refine mF (ab rfl) rfl rfl (mJ (vs:=[.agg #[], .bool true]) rfl rfl rfl) ?_;refine rc (ab rfl) rfl rfl rfl Qm (λb2=>?_);change TL _ _ _ _ _ _ _ _ _ [am b2 [] 199,am ob [(.bool (ok))] 4];refine bO (vs:=[]) (i:=0) (H':=[am b2 [] 199,am ob [(.bool (ok))] 4]) (ab rfl) rfl rfl rfl rfl rfl Ou (by simp[Value.oneCell']) rfl rfl (L8 rfl) rfl rfl ?_;refine mF (ab rfl) rfl rfl (Rn rfl rfl) ?_;refine au ?_;refine ac hK4 ?_;clear hK4;refine aa (λK5 hK5=>?_);refine ae ?_;refine mF (ab rfl) rfl rfl (kA rfl rfl) ?_;refine mF (ab rfl) rfl rfl (px (r:=false) rfl rfl rfl) ?_;refine au ?_
 refine ac hK5 ?_;clear hK5;refine Hb rfl ?_;refine aU ?_;refine ac hK3 ?_;clear hK3;refine ae ?_;refine bI (i:=1) (H':=[am b2 [] 199,am ob [(.bool false)] 4]) (ab rfl) rfl rfl rfl rfl rfl lP rfl rfl (lb rfl) rfl rfl ?_;refine au ?_;refine aF (dE _) (λ_ s=>ak [1] rfl s) ?_;refine TE.endS0 rfl ?_;refine⟨rfl,rfl,?_⟩;exact rfl
theorem HQ{fid:Nat}{caps:List Value}{x:Value}{bs:List UInt8}{C G:HP}{A:List UInt8→HP}{R:Hl→Prop}(hR: ∀F,R F→IsB x bs F)(hmono: ∀F g,R F→Dj g F→R (jn g F))(hN:Named Tryz.prog fid)
 (hc: ∀rb,DT fid ([Value.pointer (some ⟨rb,0,none⟩)]++caps).toArray R [am rb [x] 197,C] (wD (λ_ H=>∃x' r,H=[am rb [x'] 197,A r]∧Tail x bs x' r) (λc H=>c=iW∧∃x',H=[am rb [x'] 197,G]))):
 DT 81 #[x, .func (.func fid) #[] caps.toArray] R [C] (dB (λv H=>(∃r,v= .bool (decide (r=[]))∧H=[A r])∨(v= .bool false∧H=[G]))):=by
 refine Leg.Does.bodyD (vs:=[x, .func (.func fid) #[] caps.toArray]) (n:=21) Tryz.func81 rfl rfl rfl (λw0 F hF=>sr λ_ J1=>XA z4 λb4=>?_);refine nx J1 (sr λ_ J2=>PS ?_);refine tp (PV.buildOne rfl Cc Qn rfl oM rfl (hR _ hF).one) ?_;refine XB λb8=>?_
 refine PS ?_;refine nx J2 (sr λ_ J3=>tp (Rk rfl rfl) ?_);refine TL.deferFn (ab rfl) rfl rfl rfl (nx J3 (aa λ_ J4=>sr λ_ J5=>PS ?_));refine tp (PV.funcNeqNil rfl Tryz.underlying141 rfl) ?_;refine nx J5 (CY (ae (P2 ?_)));refine TL.callPv (ab rfl) rfl rfl rfl rfl hN rfl (hc b8) (λ_ s=>aD [0,1] rfl s) (N8 hmono hF) (λcP HP hP=>?_) (λvR HR hR'=>?_);obtain⟨rfl,x',rfl⟩:=hP;refine az ?_;intro a w fr sm m;refine sA (b:=b4) (e:=4) (A:=[am b4 [(.bool false)] 4]) (B:=[am b8 [x'] 197,G]) (H':=[G]) fr sm m (by simp) Ka (Bp b4 _) (λ_ s=>aD [2] rfl s) (λ_ _ _=>trivial) rfl rfl Y4 rfl (λH1 h1=>?_);subst h1;refine⟨[.bool false], .bool false,fE 0 rfl rfl,rfl,λ_ s=>ak [2] rfl s,?_⟩;exact .inr ⟨rfl,rfl⟩;obtain⟨x',r,rfl,htl⟩:=hR';have hB:=htl F (hR _ hF);rcases hB with⟨rfl,rfl⟩| ⟨b,off,cap,cs,T,z,rfl,hB1,hB2,hB3,hB4⟩
 refine nx J4 (sr λ_ J6=>P2 ?_);refine FA 0 Cc oM ?_;refine LA 0 ic ?_;refine tp (uy rfl ic rfl) ?_;refine PS ?_;refine S0 2 lP ?_;refine nx J6 (aj ?_);intro a w fr sm m;refine sA (b:=b4) (e:=4) (A:=[am b4 [(.bool true)] 4]) (B:=[am b8 [(.slice none 0 0)] 197,(A [])]) (H':=[(A [])]) fr sm m (by simp) Ka (xI b4 _) (λ_ s=>aD [2] rfl s) (λ_ _ _=>trivial) rfl rfl Y4 rfl (λH1 h1=>?_);subst h1;refine⟨[.bool true], .bool true,fE 0 rfl rfl,rfl,λ_ s=>ak [2] rfl s,?_⟩;exact .inl ⟨[],rfl,rfl⟩;refine nx J4 (sr λ_ J7=>P2 ?_);refine FA 0 Cc oM ?_;refine LA 0 ic ?_;refine tp (uy rfl ic rfl) ?_;refine PS ?_;refine S0 2 lP ?_;refine nx J7 (aj ?_);intro a w fr sm m;refine sA (b:=b4) (e:=4) (A:=[am b4 [(.bool (decide (((r.length:Nat):Int)=0)))] 4]) (B:=[am b8 [(.slice (some ⟨b,off,none⟩) (r.length) (cap))] 197,(A r)]) (H':=[(A r)]) fr sm m (by simp) Ka (xI b4 _) (λ_ s=>aD [2] rfl s) (λ_ _ _=>trivial) rfl rfl Y4 rfl (λH1 h1=>?_);subst h1;refine⟨[.bool (decide (((r.length:Nat):Int)=0))], .bool (decide (((r.length:Nat):Int)=0)),fE 0 rfl rfl,rfl,λ_ s=>ak [2] rfl s,?_⟩;exact .inl ⟨r,by congr 1;rw[decide_eq_decide];cases r<;>simp<;>omega,rfl⟩
theorem zV{fid:Nat}{caps:List Value}{x:Value}{bs:List UInt8}{α β:Type}{C:List HP}{A:α→List HP}{G:β→List HP}{φ:α→List UInt8→Prop}{ψ:β→Prop}{R:Hl→Prop}(hR: ∀F,R F→IsB x bs F)(hmono: ∀F g,R F→Dj g F→R (jn g F))(hN:Named Tryz.prog fid)
 (hc: ∀rb,DT fid ([Value.pointer (some ⟨rb,0,none⟩)]++caps).toArray R (am rb [x] 197::C) (wD (λ_ H=>∃x' r a,H=am rb [x'] 197::A a∧Tail x bs x' r∧φ a r) (λc H=>c=iW∧∃x' b,H=am rb [x'] 197::G b∧ψ b))):
 DT 81 #[x, .func (.func fid) #[] caps.toArray] R C (dB (λv H=>(∃r a,v= .bool (decide (r=[]))∧H=A a∧φ a r)∨(∃b,v= .bool false∧H=G b∧ψ b))):=by
 have h1:=HQ (C:=all C) (G:=λh=>∃b,ψ b∧bH (G b) h) (A:=λr h=>∃a,φ a r∧bH (A a) h) hR hmono hN λrb=>
  (hc rb).conv (post':=wD (λ_ H=>∃x' r,H=[am rb [x'] 197,λh=>∃a,φ a r∧bH (A a) h]∧Tail x bs x' r) (λc H=>c=iW∧∃x',H=[am rb [x'] 197,λh=>∃b,ψ b∧bH (G b) h]))
   (λh s=>xq s λ_=>Mr)
   (λe H F w hp m=>by
    cases e with
    |returned v=>
     obtain⟨x',r,a,rfl,ht,hf⟩:=hp;exact⟨[am rb [x'] 197,λh=>∃a,φ a r∧bH (A a) h],m.mono λh s=>xq s λh s=>sd ⟨a,hf,s⟩,x',r,rfl,ht⟩
    |panicked c=>
     obtain⟨hc,x',b,rfl,hf⟩:=hp;exact⟨[am rb [x'] 197,λh=>∃b,ψ b∧bH (G b) h],m.mono λh s=>xq s λh s=>sd ⟨b,hf,s⟩,hc,x',rfl⟩
    |outgrown=>exact hp.elim)
 refine h1.conv (λh s=>Lz s) λe H F w hp m=>?_
 cases e with
 |returned v=>
  rcases hp with⟨r,hv,rfl⟩| ⟨hv,rfl⟩
  · obtain⟨h,d,e,g1,g2,d',rfl,⟨a,hf,s⟩,_⟩:=m
    exact⟨A a,⟨_,d,e,mo _ s d'⟩, .inl ⟨r,a,hv,rfl,hf⟩⟩
  · obtain⟨h,d,e,g1,g2,d',rfl,⟨b,hf,s⟩,_⟩:=m
    exact⟨G b,⟨_,d,e,mo _ s d'⟩, .inr ⟨b,hv,rfl,hf⟩⟩
 |panicked c=>exact hp.elim
 |outgrown=>exact hp.elim
end Go.Proofs.YtjblgopghhgflaaGreat
end
