/-
  Joined texts:what a statement's proof reaches.
-/
import Derived.Test.YtmcjhkbcmmddgaaGreatPCC3
set_option maxHeartbeats 8000000
set_option maxRecDepth 100000
set_option linter.unusedSimpArgs false
set_option linter.unusedVariables false
section
namespace Wal
open Go Leg Codec Api Dsk
theorem uh{x y:Int}(k:Nat)(hx:0≤x)(hx2:x<2^k)(hy:0≤y)(h:x+y*2^k<4294967296):gH .u32 x (y*2^k)=x+y*2^k:=by
 obtain⟨a,rfl⟩:=Int.eq_ofNat_of_zero_le hx;obtain⟨b,rfl⟩:=Int.eq_ofNat_of_zero_le hy;have e2:((b:Nat):Int)*2^k=((b*2^k:Nat):Int):=by simp
 rw[e2]at h ⊢
 have ha:a<2^k:=by
  have:(((2:Nat)^k:Nat):Int)=(2:Int)^k:=by simp
  omega
 have hs:a+b*2^k<4294967296:=by omega
 have h1:(BitVec.ofInt 32 (a:Int)).toNat=a:=by rw[BitVec.toNat_ofInt];omega
 have h2:(BitVec.ofInt 32 ((b*2^k:Nat):Int)).toNat=b*2^k:=by
  rw[BitVec.toNat_ofInt];generalize b*2^k=q at*;omega
 have h3:a|||b*2^k=a+b*2^k:=by
  rw[Nat.or_comm,←Nat.shiftLeft_eq,←Nat.shiftLeft_add_eq_or_of_lt ha,mn]
 show IntKind.u32.wrap (((BitVec.ofInt 32 (a:Int))||| (BitVec.ofInt 32 ((b*2^k:Nat):Int))).toNat:Nat)=_;rw[BitVec.toNat_or,h1,h2,h3];generalize b*2^k=q at*;rw[kR (by omega) (by omega)];omega
theorem G9{x y:Int}(k:Nat)(hx:0≤x)(hx2:x<2^k)(hy:0≤y)(h:x+y*2^k<9223372036854775808):gH .i64 (y*2^k) x=x+y*2^k:=by
 obtain⟨a,rfl⟩:=Int.eq_ofNat_of_zero_le hx;obtain⟨b,rfl⟩:=Int.eq_ofNat_of_zero_le hy;have e2:((b:Nat):Int)*2^k=((b*2^k:Nat):Int):=by simp
 rw[e2]at h ⊢
 have ha:a<2^k:=by
  have:(((2:Nat)^k:Nat):Int)=(2:Int)^k:=by simp
  omega
 have h1:(BitVec.ofInt 64 (a:Int)).toNat=a:=by rw[BitVec.toNat_ofInt];omega
 have h2:(BitVec.ofInt 64 ((b*2^k:Nat):Int)).toNat=b*2^k:=by
  rw[BitVec.toNat_ofInt];generalize b*2^k=q at*;omega
 have h3:b*2^k|||a=a+b*2^k:=by
  rw[←Nat.shiftLeft_eq,←Nat.shiftLeft_add_eq_or_of_lt ha,mn]
 show IntKind.i64.wrap (((BitVec.ofInt 64 ((b*2^k:Nat):Int))||| (BitVec.ofInt 64 (a:Int))).toNat:Nat)=_;rw[BitVec.toNat_or,h1,h2,h3];generalize b*2^k=q at*;rw[bO (by omega) (by omega)];omega
theorem Gw(x:Int):0≤IntKind.u32.wrap x∧IntKind.u32.wrap x<4294967296:=by
 simp only[IntKind.wrap,IntKind.signed,IntKind.bits];simp;omega
theorem Bn(a b:Int):0≤pU .u32 a b∧pU .u32 a b<4294967296:=Gw _
def r8(x:Int):UInt8:=UInt8.ofNat (x%256).toNat
theorem j0(x:Int):(((r8 x).toNat:Nat):Int)=x%256:=by
 have:(x%256).toNat<256:=by omega
 simp only[r8,UInt8.toNat_ofNat'];omega
theorem r8_wrap(x:Int):IntKind.u8.wrap x=(((r8 x).toNat:Nat):Int):=by
 rw[j0];simp only[IntKind.wrap,IntKind.signed,IntKind.bits];simp
def Fj(r:Int):Int:=if qU .u32 r 1=1 then pU .u32 (r.fdiv 2) 3988292384 else r.fdiv 2
def mP(r:Int):Nat→Int
 |0=>r
 |k+1=>Fj (mP r k)
def Ge(r:Int)(c:UInt8):Int:=mP (pU .u32 r ((c.toNat:Nat):Int)) 8
def fG(r:Int)(bs:List UInt8):Int:=bs.foldl Ge r
def gB(bs:List UInt8):Int:=pU .u32 4294967295 (fG 4294967295 bs)
theorem Dp{r:Int}{bs:List UInt8}{k:Nat}(h:k<bs.length):fG r (bs.take (k+1))=Ge (fG r (bs.take k)) (bs.getD k 0):=by
 rw[fG,fG,cx h,fb,List.getD_eq_getElem?_getD,List.getElem?_eq_getElem h];rfl
theorem yp(r:Int)(a b:List UInt8):fG r (a++b)=fG (fG r a) b:=by simp[fG]
theorem Dq{r:Int}{ps:List (List UInt8)}{k:Nat}(h:k<ps.length):fG r (ps.take (k+1)).flatten=fG (fG r (ps.take k).flatten) ps[k]:=by
 rw[cx h,List.flatten_append,yp];simp
theorem Dr(bs:List UInt8):0≤gB bs∧gB bs<4294967296:=Bn _ _
def PN(r:Int):List UInt8:=[r8 r,r8 (r.fdiv 256),r8 (r.fdiv 65536),r8 (r.fdiv 16777216)]
def Jc(a b c d:UInt8):Int:=
 gH .u32 (gH .u32 (gH .u32 ((a.toNat:Nat):Int) (IntKind.u32.wrap (((b.toNat:Nat):Int)*2^8))) (IntKind.u32.wrap (((c.toNat:Nat):Int)*2^16))) (IntKind.u32.wrap (((d.toNat:Nat):Int)*2^24))
theorem KI(a b c d:UInt8):Jc a b c d=((a.toNat:Nat):Int)+((b.toNat:Nat):Int)*256+((c.toNat:Nat):Int)*65536+((d.toNat:Nat):Int)*16777216:=by
 have ha:=a.toNat_lt;have hb:=b.toNat_lt;have hc:=c.toNat_lt;have hd:=d.toNat_lt;unfold Jc;generalize a.toNat=a at*;generalize b.toNat=b at*;generalize c.toNat=c at*;generalize d.toNat=d at*;rw[kR (x:=(b:Int)*2^8) (by omega) (by omega),kR (x:=(c:Int)*2^16) (by omega) (by omega),kR (x:=(d:Int)*2^24) (by omega) (by omega)];rw[uh 8 (by omega) (by omega) (by omega) (by omega),uh 16 (by omega) (by omega) (by omega) (by omega),uh 24 (by omega) (by omega) (by omega) (by omega)];omega
def pF(bs:List UInt8):List UInt8:=bs++PN (gB bs)
def mr(bs:List UInt8):Option (List UInt8):=
 if bs.length<4 then none
 else if gB (bs.take (bs.length-4))=Jc ((bs.drop (bs.length-4)).getD 0 0) ((bs.drop (bs.length-4)).getD 1 0) ((bs.drop (bs.length-4)).getD 2 0) ((bs.drop (bs.length-4)).getD 3 0)then some (bs.take (bs.length-4))else none
theorem k8(bs:List UInt8):(pF bs).length=bs.length+4:=by simp[pF,PN]
theorem Jb{r:Int}(h:0≤r∧r<4294967296):Jc (r8 r) (r8 (r.fdiv 256)) (r8 (r.fdiv 65536)) (r8 (r.fdiv 16777216))=r:=by
 rw[KI,j0,j0,j0,j0,Int.fdiv_eq_ediv_of_nonneg _ (by decide),Int.fdiv_eq_ediv_of_nonneg _ (by decide),Int.fdiv_eq_ediv_of_nonneg _ (by decide)];omega
theorem rq(bs:List UInt8):mr (pF bs)=some bs:=by
 have hl:=k8 bs;have e1:(pF bs).take (bs.length+4-4)=bs:=by rw[HW,pF];exact tF
 have e2:(pF bs).drop (bs.length+4-4)=PN (gB bs):=by rw[HW,pF];exact DM
 unfold mr;rw[hl,if_neg (by omega),e1,e2];exact if_pos (Jb (Dr bs)).symm
theorem yR{bs t:List UInt8}(h:mr bs=some t):t.length+4=bs.length:=by
 unfold mr at h;split at h
 · cases h
 · split at h
   · injection h with h;subst h;rw[bp];omega
   · cases h
def bc(n:Nat):Nat:=if n=0 then 1 else(n-1) / 52+1
theorem lU(n:Nat):0<bc n:=by unfold bc;split<;>omega
theorem o6{n:Nat}(h:n≤3000):bc n≤58:=by unfold bc;split<;>omega
theorem ye(n:Nat):n≤bc n*52:=by unfold bc;split<;>omega
def JC(n:Int):List UInt8:=[r8 (n.fdiv 16777216),r8 (n.fdiv 65536),r8 (n.fdiv 256),r8 n]
def Dz(bs:List UInt8):Int:=bs.foldl (λh c=>gH .i64 (IntKind.i64.wrap (h*2^8)) ((c.toNat:Nat):Int)) 0
theorem JB{bs:List UInt8}{k:Nat}(h:k<bs.length):Dz (bs.take (k+1))=gH .i64 (IntKind.i64.wrap (Dz (bs.take k)*2^8)) (((bs.getD k 0).toNat:Nat):Int):=by
 rw[Dz,Dz,cx h,fb,List.getD_eq_getElem?_getD,List.getElem?_eq_getElem h];rfl
theorem vM{h:Int}(c:UInt8)(h0:0≤h)(h1:h<4294967296):gH .i64 (IntKind.i64.wrap (h*2^8)) ((c.toNat:Nat):Int)=h*256+((c.toNat:Nat):Int):=by
 have hc:=c.toNat_lt;generalize c.toNat=c at*;rw[bO (by omega) (by omega),G9 8 (by omega) (by omega) (by omega) (by omega)];omega
theorem xG(a b c d:UInt8):Dz [a,b,c,d]=((a.toNat:Nat):Int)*16777216+((b.toNat:Nat):Int)*65536+((c.toNat:Nat):Int)*256+((d.toNat:Nat):Int):=by
 have ha:=a.toNat_lt;have hb:=b.toNat_lt;have hc:=c.toNat_lt;have hd:=d.toNat_lt;simp only[Dz,List.foldl_cons,List.foldl_nil];rw[vM a (by omega) (by omega),vM b (by omega) (by omega),vM c (by omega) (by omega),vM d (by omega) (by omega)];omega
theorem K8{n:Int}(h0:0≤n)(h1:n<4294967296):Dz (JC n)=n:=by
 rw[JC,xG,j0,j0,j0,j0,Int.fdiv_eq_ediv_of_nonneg _ (by decide),Int.fdiv_eq_ediv_of_nonneg _ (by decide),Int.fdiv_eq_ediv_of_nonneg _ (by decide)];omega
def g8(b:List UInt8)(i:Nat):List UInt8:=(b.drop (i*52)).take 52
theorem qL(b:List UInt8)(i:Nat):(g8 b i).length≤52:=by rw[g8,bp];omega
theorem Ku{n k:Nat}(h:k<bc n):k*52≤n:=by unfold bc at h;split at h<;>omega
theorem Kv(b:List UInt8)(k:Nat):((b.take (min ((k+1)*52) b.length)).drop (k*52))=g8 b k:=by
 rw[g8,oK,gd,Nat.one_mul]
 by_cases q:k*52+52≤b.length
 · rw[Nat.min_eq_left q,cv]
 · rw[Nat.min_eq_right (by omega),aD (by rw[ef];omega),aD (by rw[ef];omega)]
theorem G5(b:List UInt8): ∀k,b.length≤k*52→((List.range k).map (g8 b)).flatten=b:=by
 have key: ∀k,((List.range k).map (g8 b)).flatten=b.take (k*52):=by
  intro k
  induction k with
  |zero=>simp
  |succ k ih=>
   rw[cX,cL,List.flatten_append,ih,gd,Nat.one_mul,List.take_add];simp[g8]
 intro k hk;rw[key,aD hk]
def ju(number:Int)(place all:Nat)(p:List UInt8):List UInt8:=JC number++([r8 (place:Int),r8 (all:Int),r8 (p.length:Int)]++(p++List.replicate (52-p.length) 0))
theorem jM{number:Int}{place all:Nat}{p:List UInt8}(h:p.length≤52):(ju number place all p).length=59:=by simp[ju,JC];omega
def mw(number:Int)(place all:Nat)(p:List UInt8):ix:=pF (ju number place all p)++[1]
theorem GI{number:Int}{place all:Nat}{p:List UInt8}(h:p.length≤52):(mw number place all p).length=64:=by simp[mw,k8,jM h]
def bk(number:Int)(b:List UInt8):List ix:=(List.range (bc b.length)).map λi=>mw number i (bc b.length) (g8 b i)
def na(number:Int)(b:List UInt8)(k:Nat):List ix:=(List.range k).map λi=>mw number i (bc b.length) (g8 b i)
theorem El(number:Int)(b:List UInt8)(k:Nat):na number b (k+1)=na number b k++[mw number k (bc b.length) (g8 b k)]:=by simp[na,cX]
theorem yV(number:Int)(b:List UInt8)(k:Nat):(na number b k).length=k:=by simp[na]
theorem GA{number:Int}{place all:Nat}{p:List UInt8}(h:p.length≤52):
 wr (eS (JC number++([r8 (place:Int),r8 (all:Int),r8 (p.length:Int)]++List.replicate 52 0))) 7 ((eS p).take (min p.length 52))=eS (ju number place all p):=by
 have e:(eS p).take (min p.length 52)=eS p:=aD (by rw[bz];omega);rw[e,wr,bz];have e2:(eS (JC number++([r8 (place:Int),r8 (all:Int),r8 (p.length:Int)]++List.replicate 52 0))).take 7=eS (JC number++[r8 (place:Int),r8 (all:Int),r8 (p.length:Int)]):=rfl
 have e3:(eS (JC number++([r8 (place:Int),r8 (all:Int),r8 (p.length:Int)]++List.replicate 52 0))).drop (7+p.length)=eS (List.replicate (52-p.length) 0):=by
  rw[←jb];have:(eS (JC number++([r8 (place:Int),r8 (all:Int),r8 (p.length:Int)]++List.replicate 52 0))).drop 7=eS (List.replicate 52 0):=rfl;rw[this,eS,eS,←ll,FC]
 rw[e2,e3,ju];simp[eS]
theorem cy(number:Int)(b:List UInt8):(bk number b).length=bc b.length:=by simp[bk]
def fg(s:ix)(number place:Int):Option (List UInt8×Int):=
 match mr (s.take 63)with
 |none=>none
 |some t=>if s.getD 63 0≠1 then none
  else if Dz (t.take 4)≠number∨(((t.getD 4 0).toNat:Nat):Int)≠place∨place≥(((t.getD 5 0).toNat:Nat):Int)∨(((t.getD 6 0).toNat:Nat):Int)>52 then none
  else some ((t.drop 7).take (t.getD 6 0).toNat,(((t.getD 5 0).toNat:Nat):Int))
theorem Ct{number:Int}{place all:Nat}{p:List UInt8}(h:p.length≤52)(h0:0≤number)(h1:number<4294967296)(hp:place<all)(ha:all≤255):fg (mw number place all p) number place=some (p,(all:Int)):=by
 have e1:(mw number place all p).take 63=pF (ju number place all p):=by
  rw[mw,cf (by rw[k8,jM h];omega),aD (by rw[k8,jM h];omega)]
 have e2:(mw number place all p).getD 63 0=1:=by
  rw[mw,List.getD_eq_getElem?_getD,List.getElem?_append_right (by rw[k8,jM h];omega),k8,jM h];rfl
 have n1:(((r8 (place:Int)).toNat:Nat):Int)=place:=by rw[j0];omega
 have n2:(((r8 (all:Int)).toNat:Nat):Int)=all:=by rw[j0];omega
 have n3:(((r8 (p.length:Int)).toNat:Nat):Int)=p.length:=by rw[j0];omega
 unfold fg;rw[e1,rq];simp only[e2,ne_eq,not_true_eq_false,if_false];have t4:(ju number place all p).take 4=JC number:=rfl;have g4:(ju number place all p).getD 4 0=r8 (place:Int):=rfl;have g5:(ju number place all p).getD 5 0=r8 (all:Int):=rfl;have g6:(ju number place all p).getD 6 0=r8 (p.length:Int):=rfl;have g7:(ju number place all p).drop 7=p++List.replicate (52-p.length) 0:=rfl;rw[t4,K8 h0 h1,g4,g5,g6,g7,n1,n2,n3];rw[if_neg (by omega)];have n3':(r8 (p.length:Int)).toNat=p.length:=by omega
 rw[n3'];simp
theorem nc{s:ix}{number place:Int}(h:s.getD 63 0≠1):fg s number place=none:=by
 unfold fg;split
 · rfl
 · rw[if_pos h]
theorem o7{s b:ix}{number place all:Int}(hs:s.length=64)(h:fg s number place=some (b,all)):place<all∧all≤255∧b.length≤52:=by
 unfold fg at h;split at h
 · cases h
 · rename_i t ht
   have hl:=yR ht;split at h
   · cases h
   · split at h
     · cases h
     · rename_i h2
       injection h with h
       simp only[Prod.mk.injEq]at h;obtain⟨rfl,rfl⟩:=h;have:=(t.getD 5 0).toNat_lt;rw[bp];omega
theorem AE{s:ix}{number place:Int}(h:mr (s.take 63)=none):fg s number place=none:=by simp only[fg,h]
theorem mG{s t:ix}{number place:Int}(h:mr (s.take 63)=some t)(h2:Dz (t.take 4)≠number∨(((t.getD 4 0).toNat:Nat):Int)≠place∨place≥(((t.getD 5 0).toNat:Nat):Int)∨(((t.getD 6 0).toNat:Nat):Int)>52):fg s number place=none:=by
 simp only[fg,h];split
 · rfl
 · first|rfl|rw[if_pos h2]
theorem Cs{s t:ix}{number place:Int}(h:mr (s.take 63)=some t)(h1:s.getD 63 0=1)(h2: ¬(Dz (t.take 4)≠number∨(((t.getD 4 0).toNat:Nat):Int)≠place∨place≥(((t.getD 5 0).toNat:Nat):Int)∨(((t.getD 6 0).toNat:Nat):Int)>52)):
 fg s number place=some ((t.drop 7).take (t.getD 6 0).toNat,(((t.getD 5 0).toNat:Nat):Int)):=by
 simp only[fg,h,h1,ne_eq,not_true_eq_false,if_false];rw[if_neg h2]
def la(rd:Int→ix)(number at' all:Int):Nat→Option (List UInt8)
 |0=>some []
 |k+1=>match la rd number at' all k with
  |none=>none
  |some b=>match fg (rd (at'+k)) number k with
   |none=>none
   |some (m,same)=>if same=all then some (b++m)else none
def fJ(rd:Int→ix)(number at':Int):Option (List UInt8×Int):=
 match fg (rd at') number 0 with
 |none=>none
 |some (_,all)=>(la rd number at' all all.toNat).map λb=>(b,all)
theorem EK{rd:Int→ix}{number at' all:Int}{k:Nat}(h:la rd number at' all k=none): ∀m,k≤m→la rd number at' all m=none:=by
 intro m hm
 induction hm with
 |refl=>exact h
 |step _ ih=>simp only[la,ih]
theorem w9{rd:Int→ix}{number at' all:Int}{k:Nat}(h:fg (rd (at'+k)) number k=none∨∃m same,fg (rd (at'+k)) number k=some (m,same)∧same≠all): ∀m,k<m→la rd number at' all m=none:=by
 refine λm hm=>EK (k:=k+1) ?_ m hm
 simp only[la];cases la rd number at' all k with
 |none=>rfl
 |some b=>
  rcases h with h| ⟨x,same,h,h2⟩
  · simp only[h]
  · simp only[h,if_neg h2]
theorem xb{rd:Int→ix}{number at' all:Int}{k:Nat}{b x:List UInt8}(h:la rd number at' all k=some b)(h2:fg (rd (at'+k)) number k=some (x,all)):la rd number at' all (k+1)=some (b++x):=by
 simp only[la,h,h2,if_true]
theorem Hk{rd:Int→ix}{number at' all:Int}{b:List UInt8}(h:fg (rd at') number 0=some (b,all)):la rd number at' all 1=some b:=by
 have h0:la rd number at' all 0=some []:=rfl;have:=xb (rd:=rd) (number:=number) (at':=at') (all:=all) (k:=0) h0 (x:=b) (by simpa using h)
 simpa using this
theorem qZ{rd:Int→ix}{number at':Int}(h:fg (rd at') number 0=none):fJ rd number at'=none:=by simp only[fJ,h]
theorem qY{rd:Int→ix}{number at' all:Int}{b:List UInt8}(h:fg (rd at') number 0=some (b,all))(h2:la rd number at' all all.toNat=none):fJ rd number at'=none:=by simp only[fJ,h,h2,Option.map_none]
theorem sH{rd:Int→ix}{number at' all:Int}{b c:List UInt8}(h:fg (rd at') number 0=some (b,all))(h2:la rd number at' all all.toNat=some c):fJ rd number at'=some (c,all):=by simp only[fJ,h,h2,Option.map_some]
def fW(rd:Int→ix):Nat→Int→Int→List (List UInt8)×Int
 |0,_,used=>([],used)
 |f+1,cnt,used=>match fJ rd (cnt+1) used with
  |none=>([],used)
  |some (b,all)=>let r:=fW rd f (cnt+1) (used+all);(b::r.1,r.2)
def gP:Nat→Int→DS→Int×DS
 |0,_,D=>(0,D)
 |n+1,at',D=>if D.read at'=zs then gP n (at'+1) D else if(D.write at' []).1=0 then gP n (at'+1) (D.write at' []).2 else D.write at' []
structure OpenR where
 err:Int
 recs:List (List UInt8)
 used:Int
 D:DS
def iH:Nat:=2049
theorem qm:iH=2049:=rfl
def bI(D:DS):OpenR:=
 let r:=fW D.read iH 0 0;let w:=gP (2048-r.2).toNat r.2 D
 if w.1≠0 then⟨w.1,[],0,w.2⟩else if w.2.sync.1≠0 then⟨w.2.sync.1,[],0,w.2.sync.2⟩else⟨0,r.1,r.2,w.2.sync.2⟩
def In(s:fH):Prop:=∀p∈s,0≤p.1∧p.1<2048
def DS.In(D:DS):Prop:=Wal.In D.s∧Wal.In D.ws
end Wal
end

section
namespace Go.Proofs.YtmcjhkbcmmddgaaGreat
open Go Leg Codec Api Dsk Wal
theorem FT(x:Value)(ps:List (List UInt8)):
 DT 80 #[x] (OA x ps) [] (RI (.int .u32 (gB ps.flatten)) []):=by
 refine BD 39 Tryz.func80 rfl rfl rfl λw0 F hF=>sr λ_ J1=>PS ?_
 refine nx J1 (sr λ_ J2=>PS ?_);refine nx J2 (aa λ_ J3=>sr λ_ J4=>PS ?_);refine tp (dW rfl vq rfl hF.len) ?_;refine PS ?_;refine nx J4 (av ?_)
 refine bG (α:=(Nat)) (λk=>k≤ps.length) (λk=>[(2,(.int .u32 0)),(3,(.int .u32 (fG 4294967295 (ps.take k).flatten))),(8,x),(9,(.int .i64 (((ps.length:Nat):Int)))),(10,(.int .i64 (((k:Nat):Int))))]) (λk=>[]) (λk=>ps.length-k) 0
  (aP _) SB
  (λ_ s=>s) (λk hinv=>?_)
 obtain hk:=hinv;refine sr λ_ J5=>PS ?_
 refine aq ?_ ?_<;>intro h11;obtain⟨b_a,off_a,cap_a,cs_a,T_a,z_a,us_a,hv_a,hc_a,hb_a,hl_a,hs_a,hE_a⟩:=IsL.at hF (j:=k) (by omega);obtain⟨u_a,rfl,hu_a⟩:=hE_a;refine nx J5 (aa λ_ J6=>CY (qx J6 (aa λ_ J7=>av (sr λ_ J8=>tp (ca (r:=off_a+k) hv_a rfl vq n4 rfl rfl (by omega) (by omega) (by omega)) ?_))));refine tp (de (v:=u_a) rfl ia rfl rfl (DU hb_a (λ_ h=>fC h)) (by have:=BQ (j:=0) hs_a rfl;simpa using this)) ?_;refine PS ?_;refine nx J8 (sr λ_ J9=>PS ?_);refine tp (dW rfl ia rfl hu_a.len) ?_;refine PS ?_;refine nx J9 (av ?_)
 refine bG (α:=(Nat)) (λj=>j≤ps[k].length) (λj=>[(2,(.int .u32 0)),(3,(.int .u32 (fG (fG 4294967295 (ps.take k).flatten) (ps[k].take j)))),(8,x),(9,(.int .i64 (((ps.length:Nat):Int)))),(10,(.int .i64 (((k:Nat):Int)))),(14,u_a),(15,(.int .i64 (((ps[k].length:Nat):Int)))),(16,(.int .i64 (((j:Nat):Int))))]) (λj=>[]) (λj=>ps[k].length-j) 0
  (aP _) SB
  (λ_ s=>s) (λj hinv=>?_)
 obtain hj:=hinv;refine sr λ_ J10=>PS ?_
 refine aq ?_ ?_<;>intro h17;obtain⟨b_b,off_b,cap_b,cs_b,T_b,z_b,hv_b,hb_b,hcs_b,hcp_b⟩:=IsW.at hu_a (j:=j) (by omega);have hlt_b:=IsW.lt hu_a;refine nx J10 (aa λ_ J11=>CY (qx J11 (aa λ_ J12=>av (sr λ_ J13=>tp (ca (r:=off_b+j) hv_b rfl ia lO rfl rfl (by omega) (by omega) (by omega)) ?_))));refine tp (de (v:=(.int .u8 (((((ps[k]).getD j 0).toNat:Nat):Int)))) rfl Y5 rfl rfl (DU hb_b (λ_ h=>fC h)) (hcs_b j (by omega))) ?_;refine PS ?_;refine nx J13 (sr λ_ J14=>P2 ?_);refine tp (eN (r:=((((ps[k]).getD j 0).toNat:Nat):Int)) rfl Y5 Bk rfl (kR (by omega) (by have:=(ps[k].getD j 0).toNat_lt;omega))) ?_;refine tp (PV.xor (r:=pU .u32 (fG (fG 4294967295 (ps.take k).flatten) (ps[k].take j)) (((((ps[k]).getD j 0).toNat:Nat):Int))) rfl rfl rfl rfl) ?_;refine PS ?_;refine nx J14 (sr λ_ J15=>PS ?_);refine nx J15 (av ?_)
 refine bG (α:=(Nat)) (λi=>i≤8) (λi=>[(2,(.int .u32 0)),(3,(.int .u32 (mP (pU .u32 (fG (fG 4294967295 (ps.take k).flatten) (ps[k].take j)) ((((ps[k]).getD j 0).toNat:Nat):Int)) i))),(8,x),(9,(.int .i64 (((ps.length:Nat):Int)))),(10,(.int .i64 (((k:Nat):Int)))),(14,u_a),(15,(.int .i64 (((ps[k].length:Nat):Int)))),(16,(.int .i64 (((j:Nat):Int)))),(24,(.int .i64 (((i:Nat):Int))))]) (λi=>[]) (λi=>8-i) 0
  (aP _) SB
  (λ_ s=>s) (λi hinv=>?_)
 obtain hi:=hinv;refine sr λ_ J16=>PS ?_
 refine aq ?_ ?_<;>intro h25;refine nx J16 (aa λ_ J17=>CY (qx J17 (aa λ_ J18=>av (sr λ_ J19=>PS ?_))));refine tp (vA (r:=qU .u32 (mP (pU .u32 (fG (fG 4294967295 (ps.take k).flatten) (ps[k].take j)) ((((ps[k]).getD j 0).toNat:Nat):Int)) i) 1) rfl rfl rfl rfl) ?_;refine PS ?_;refine aq ?_ ?_<;>intro h28;refine nx J19 (CY (ag (PS ?_)));refine tp (l7 (r:=(mP (pU .u32 (fG (fG 4294967295 (ps.take k).flatten) (ps[k].take j)) ((((ps[k]).getD j 0).toNat:Nat):Int)) i).fdiv 2) rfl rfl rfl (by omega) rfl) ?_;refine tp (PV.xor (r:=pU .u32 ((mP (pU .u32 (fG (fG 4294967295 (ps.take k).flatten) (ps[k].take j)) ((((ps[k]).getD j 0).toNat:Nat):Int)) i).fdiv 2) 3988292384) rfl rfl rfl rfl) ?_;refine PS ?_;refine ax (ah (af J18 (ag (AD ?_))));refine PS ?_;refine ax ?_
 exact aN ((i+1):(Nat)) (by omega) (by show 8- (i+1)<8-i;omega)
  (aW (bJ rfl (congrArg (Value.int .u32) (by rw[mP,Fj,if_pos h28])) SB))
  (λ_ s=>s)
 refine nx J19 (CN (ag (PS ?_)));refine tp (l7 (r:=(mP (pU .u32 (fG (fG 4294967295 (ps.take k).flatten) (ps[k].take j)) ((((ps[k]).getD j 0).toNat:Nat):Int)) i).fdiv 2) rfl rfl rfl (by omega) rfl) ?_;refine PS ?_;refine ax (ah (af J18 (ag (AD ?_))));refine PS ?_;refine ax ?_
 exact aN ((i+1):(Nat)) (by omega) (by show 8- (i+1)<8-i;omega)
  (aW (bJ rfl (congrArg (Value.int .u32) (by rw[mP,Fj,if_neg h28])) SB))
  (λ_ s=>s)
 refine nx J16 (aa λ_ J20=>CN (bg (aC (aC (bD (ah (af J12 (ag (AD ?_)))))))));refine PS ?_;refine ax ?_
 exact aN ((j+1):(Nat)) (by omega) (by show ps[k].length- (j+1)<ps[k].length-j;omega)
  (aW (bJ rfl (congrArg (Value.int .u32) (by obtain rfl:i=8:=(by omega);rw[Dp (by omega)];rfl)) SB))
  (λ_ s=>s)
 refine nx J10 (aa λ_ J21=>CN (bg (aC (aC (bD (ah (af J7 (ag (AD ?_)))))))));refine PS ?_;refine ax ?_
 exact aN ((k+1):(Nat)) (by omega) (by show ps.length- (k+1)<ps.length-k;omega)
  (aW (bJ rfl (congrArg (Value.int .u32) (by rw[show j=ps[k].length by omega,ko,Dq (by omega)])) SB))
  (λ_ s=>s)
 refine nx J5 (aa λ_ J22=>CN (bg (aC (aC (bD (af J3 (sr λ_ J23=>PS ?_)))))));refine tp (PV.com (r:=pU .u32 4294967295 (fG 4294967295 (ps.take k).flatten)) rfl rfl rfl) ?_;refine PS ?_;refine nx J23 (ak (WK [] (aw rfl rfl ?_)));obtain rfl:k=ps.length:=by omega
 rw[ko];exact⟨rfl,rfl⟩
theorem uE(x:Value)(bs:List UInt8)(hb:bs.length≤1000000000):
 DT 46 #[x] (IsW x bs) [] (dL (λv H=>H=[dV v (pF bs) 5])):=by
 refine BD 29 Tryz.func46 rfl rfl rfl λw0 F hF=>sr λ_ J1=>PS ?_
 refine nx J1 (sr λ_ J2=>PS ?_);refine aZ (cells:=#[x]) (ab rfl) rfl rfl rfl vq Ht rfl rfl rfl (s9 hF.one (by simp)) (λb6=>CF Nq (FT (.slice (some ⟨b6,0,none⟩) (1) (1)) [bs]) ID (CO hF 0 rfl rfl) ?_);rw[show [bs].flatten=bs by simp];refine PS ?_;refine nx J2 (sr λ_ J3=>PS ?_);refine tp (dW rfl ia rfl hF.len) ?_;refine AD ?_;refine TL.makeB (0) (bs.length+4) (ab rfl) rfl rfl rfl ia zv rfl rfl rfl (by omega) (by omega) (by omega) (λb11=>cB (H':=[dV (.slice (some ⟨b11,0,none⟩) 0 (bs.length+4)) ([]) 5,an b6 [x] 62]) (λ_ s=>FN 0 rfl rfl (by omega) (by simp only[maxLen];omega) (by simp[eS]) rfl s) (PS ?_));refine nx J3 (sr λ_ J4=>P2 ?_);refine cM (k:=0) (news:=eS (bs)) (nn':=(bs:List UInt8).length) (xs':=eS (bs)) (ab rfl) rfl rfl rfl ia zv rfl rfl rfl rfl rfl rfl (λ_ _=>hF.src (λ_ h=>fC h)) (fy _) (by simp only[maxLen,aB];omega) (by simp only[aB];omega) (by simp) (bu _) (λv14 ov14=>PS ?_);refine nx J4 (sr λ_ J5=>P2 ?_);refine tp (eN (r:=(((r8 (gB bs)).toNat:Nat):Int)) rfl Bk Y5 rfl (r8_wrap _)) ?_;refine PS ?_;refine tp (l7 (r:=(gB bs).fdiv 256) rfl rfl rfl (by omega) rfl) ?_;refine tp (eN (r:=(((r8 ((gB bs).fdiv 256)).toNat:Nat):Int)) rfl Bk Y5 rfl (r8_wrap _)) ?_;refine PS ?_;refine tp (l7 (r:=(gB bs).fdiv 65536) rfl rfl rfl (by omega) rfl) ?_;refine tp (eN (r:=(((r8 ((gB bs).fdiv 65536)).toNat:Nat):Int)) rfl Bk Y5 rfl (r8_wrap _)) ?_;refine PS ?_
 refine tp (l7 (r:=(gB bs).fdiv 16777216) rfl rfl rfl (by omega) rfl) ?_;refine tp (eN (r:=(((r8 ((gB bs).fdiv 16777216)).toNat:Nat):Int)) rfl Bk Y5 rfl (r8_wrap _)) ?_;refine aZ (cells:=#[(.int .u8 ((((r8 (gB bs)).toNat:Nat):Int))),(.int .u8 ((((r8 ((gB bs).fdiv 256)).toNat:Nat):Int))),(.int .u8 ((((r8 ((gB bs).fdiv 65536)).toNat:Nat):Int))),(.int .u8 ((((r8 ((gB bs).fdiv 16777216)).toNat:Nat):Int)))]) (ab rfl) rfl rfl rfl ia zv rfl rfl rfl (by as_aux_lemma=>kernel_rfl) (λb27=>cM (k:=1) (news:=eS ([(r8 (gB bs)),(r8 ((gB bs).fdiv 256)),(r8 ((gB bs).fdiv 65536)),(r8 ((gB bs).fdiv 16777216))])) (nn':=(bs++[(r8 (gB bs)),(r8 ((gB bs).fdiv 256)),(r8 ((gB bs).fdiv 65536)),(r8 ((gB bs).fdiv 16777216))]:List UInt8).length) (xs':=eS (bs++[(r8 (gB bs)),(r8 ((gB bs).fdiv 256)),(r8 ((gB bs).fdiv 65536)),(r8 ((gB bs).fdiv 16777216))])) (ab rfl) rfl rfl rfl ia zv rfl rfl rfl rfl rfl rfl (λ_ _=>jU rfl (RO 0) rfl) (fy [(r8 (gB bs)),(r8 ((gB bs).fdiv 256)),(r8 ((gB bs).fdiv 65536)),(r8 ((gB bs).fdiv 16777216))]) (by simp only[maxLen];omega) (by omega) (by simp) (js _ _).symm (λv28 ov28=>PS ?_));exact nx J5 (ak (WK [1] (aw rfl rfl rfl)))
theorem GB(a:Option Addr)(c:Nat)(bs:List UInt8)(hc:bs.length≤c)(hb:bs.length≤1000000000):
 DT 133 #[(.slice a bs.length c)] (IsW (.slice a bs.length c) bs) [] (dL (λv H=>(mr bs=none∧v= .tuple #[.slice none 0 0, .bool false]∧H=[])∨∃t u,mr bs=some t∧v= .tuple #[u, .bool true]∧H=[dV u t 5])):=by
 refine BD 50 Tryz.func133 rfl rfl rfl λw0 F hF=>sr λ_ J1=>P2 ?_
 refine nx J1 (aa λ_ J2=>sr λ_ J3=>PS ?_);refine tp (dW rfl ia rfl ⟨_,_,rfl⟩) ?_;refine PS ?_;refine aq ?_ ?_<;>intro h9;refine nx J3 (CY (sr λ_ J4=>P2 ?_));refine nx J4 (ak (ae (WK [] (jg rfl rfl rfl ?_))));exact .inl ⟨by rw[mr,if_pos (by omega)],rfl,rfl⟩;have hT:IsW (kh (.slice a bs.length c) 0 (bs.length-4)) (bs.take (bs.length-4)) F:=by have:=hF.cut (lo:=0) (hi:=bs.length-4) (by omega) (by omega);simpa using this
 have hU:IsW (kh (.slice a bs.length c) (bs.length-4) bs.length) (bs.drop (bs.length-4)) F:=by have:=hF.cut (lo:=bs.length-4) (hi:=bs.length) (by omega) (by omega);rwa [ko]at this
 have hq:(bs.drop (bs.length-4)).length=4:=by rw[ef];omega
 obtain⟨b_b,off_b,cap_b,cs_b,T_b,z_b,hv_b,hb_b,hcs_b,hcp_b⟩:=IsW.at hU (j:=0) (by omega);have hlt_b:=IsW.lt hU;refine nx J3 (CN (qx J2 (aa λ_ J5=>D0 el ?_)));refine PD 0 ?_;refine PD 1 ?_;refine ta 2 rfl (dW rfl ia rfl ⟨_,_,rfl⟩) ?_;refine ta 3 rfl (jV (r:=(((bs.length-4:Nat):Nat):Int)) rfl rfl rfl (by rw[show(((bs.length:Nat):Int)-4)=((bs.length-4:Nat):Int)by omega];exact bO (by omega) (by omega))) ?_;refine ta 4 rfl (PV.sliceH (hi:=bs.length-4) rfl ia lO rfl rfl rfl (by omega)) ?_;refine PD 5 ?_;refine PD 6 ?_;refine ta 7 rfl (dW rfl ia rfl ⟨_,_,rfl⟩) ?_;refine ta 8 rfl (jV (r:=(((bs.length-4:Nat):Nat):Int)) rfl rfl rfl (by rw[show(((bs.length:Nat):Int)-4)=((bs.length-4:Nat):Int)by omega];exact bO (by omega) (by omega))) ?_;refine ta 9 rfl (PV.sliceL (lo:=bs.length-4) rfl ia lO rfl rfl rfl (by omega)) ?_;refine PD 10 ?_;refine PD 11 ?_;refine DN (af J5 (aa λ_ J6=>D0 el ?_));refine PD 0 ?_;refine ta 1 rfl (ca (r:=off_b) hv_b rfl ia lO rfl rfl (by omega) (by omega) (by omega)) ?_;refine ta 2 rfl (de (v:=(.int .u8 ((((((bs.drop (bs.length-4))).getD 0 0).toNat:Nat):Int)))) rfl Y5 rfl rfl (DU hb_b (λ_ h=>h.1)) (hcs_b 0 (by omega))) ?_;refine ta 3 rfl (eN (r:=(((((bs.drop (bs.length-4))).getD 0 0).toNat:Nat):Int)) rfl Y5 Bk rfl (kR (by omega) (by have:=UInt8.toNat_lt (n:=(bs.drop (bs.length-4)).getD 0 0);omega))) ?_;refine PD 4 ?_
 refine ta 5 rfl (ca (r:=off_b+1) hv_b rfl ia lO rfl rfl (by omega) (by omega) (by omega)) ?_;refine ta 6 rfl (de (v:=(.int .u8 ((((((bs.drop (bs.length-4))).getD 1 0).toNat:Nat):Int)))) rfl Y5 rfl rfl (DU hb_b (λ_ h=>h.1)) (hcs_b 1 (by omega))) ?_;refine ta 7 rfl (eN (r:=(((((bs.drop (bs.length-4))).getD 1 0).toNat:Nat):Int)) rfl Y5 Bk rfl (kR (by omega) (by have:=UInt8.toNat_lt (n:=(bs.drop (bs.length-4)).getD 1 0);omega))) ?_;refine ta 8 rfl (yz (r:=IntKind.u32.wrap ((((((bs.drop (bs.length-4))).getD 1 0).toNat:Nat):Int)*2^8)) rfl rfl rfl (by omega) rfl) ?_;refine ta 9 rfl (JM (r:=gH .u32 (((((bs.drop (bs.length-4))).getD 0 0).toNat:Nat):Int) (IntKind.u32.wrap ((((((bs.drop (bs.length-4))).getD 1 0).toNat:Nat):Int)*2^8))) rfl rfl rfl rfl) ?_;refine PD 10 ?_;refine ta 11 rfl (ca (r:=off_b+2) hv_b rfl ia lO rfl rfl (by omega) (by omega) (by omega)) ?_;refine ta 12 rfl (de (v:=(.int .u8 ((((((bs.drop (bs.length-4))).getD 2 0).toNat:Nat):Int)))) rfl Y5 rfl rfl (DU hb_b (λ_ h=>h.1)) (hcs_b 2 (by omega))) ?_;refine ta 13 rfl (eN (r:=(((((bs.drop (bs.length-4))).getD 2 0).toNat:Nat):Int)) rfl Y5 Bk rfl (kR (by omega) (by have:=UInt8.toNat_lt (n:=(bs.drop (bs.length-4)).getD 2 0);omega))) ?_;refine ta 14 rfl (yz (r:=IntKind.u32.wrap ((((((bs.drop (bs.length-4))).getD 2 0).toNat:Nat):Int)*2^16)) rfl rfl rfl (by omega) rfl) ?_
 refine ta 15 rfl (JM (r:=gH .u32 (gH .u32 (((((bs.drop (bs.length-4))).getD 0 0).toNat:Nat):Int) (IntKind.u32.wrap ((((((bs.drop (bs.length-4))).getD 1 0).toNat:Nat):Int)*2^8))) (IntKind.u32.wrap ((((((bs.drop (bs.length-4))).getD 2 0).toNat:Nat):Int)*2^16))) rfl rfl rfl rfl) ?_;refine PD 16 ?_;refine ta 17 rfl (ca (r:=off_b+3) hv_b rfl ia lO rfl rfl (by omega) (by omega) (by omega)) ?_;refine ta 18 rfl (de (v:=(.int .u8 ((((((bs.drop (bs.length-4))).getD 3 0).toNat:Nat):Int)))) rfl Y5 rfl rfl (DU hb_b (λ_ h=>h.1)) (hcs_b 3 (by omega))) ?_;refine ta 19 rfl (eN (r:=(((((bs.drop (bs.length-4))).getD 3 0).toNat:Nat):Int)) rfl Y5 Bk rfl (kR (by omega) (by have:=UInt8.toNat_lt (n:=(bs.drop (bs.length-4)).getD 3 0);omega))) ?_;refine ta 20 rfl (yz (r:=IntKind.u32.wrap ((((((bs.drop (bs.length-4))).getD 3 0).toNat:Nat):Int)*2^24)) rfl rfl rfl (by omega) rfl) ?_;refine ta 21 rfl (JM (r:=Jc ((bs.drop (bs.length-4)).getD 0 0) ((bs.drop (bs.length-4)).getD 1 0) ((bs.drop (bs.length-4)).getD 2 0) ((bs.drop (bs.length-4)).getD 3 0)) rfl rfl rfl rfl) ?_;refine PD 22 ?_;refine DN (af J6 (aa λ_ J7=>sr λ_ J8=>PS ?_));refine aZ (cells:=#[(kh (.slice a bs.length c) 0 (bs.length-4))]) (ab rfl) rfl rfl rfl vq Ht rfl rfl rfl (s9 hT.one (by simp)) (λb43=>CF Nq (FT (.slice (some ⟨b43,0,none⟩) (1) (1)) [(bs.take (bs.length-4))]) ID (CO hT 0 rfl rfl) ?_)
 rw[show [(bs.take (bs.length-4))].flatten=(bs.take (bs.length-4))by simp];refine P2 ?_;refine aq ?_ ?_<;>intro h46;refine nx J8 (CY (sr λ_ J9=>P2 ?_));refine nx J9 (ak (ae (WK [] (jg rfl rfl rfl ?_))));exact .inl ⟨by rw[mr,if_neg (by omega),if_neg h46],rfl,rfl⟩;refine nx J8 (CN (qx J7 (sr λ_ J10=>DJ (ab rfl) rfl rfl rfl ia lO (λv47=>PS ?_))));refine cM (k:=0) (news:=eS ((bs.take (bs.length-4)))) (nn':=((bs.take (bs.length-4)):List UInt8).length) (xs':=eS ((bs.take (bs.length-4)))) (ab rfl) rfl rfl rfl ia zv rfl rfl rfl rfl rfl rfl (λ_ _=>hT.src (λ_ h=>fC h)) (fy _) (by simp only[maxLen,aB,bp];omega) (by simp only[aB,bp];omega) (by simp) (bu _) (λv49 ov49=>P2 ?_);refine nx J10 (ak (WK [0] (jg rfl rfl rfl ?_)));exact .inr ⟨_,_,by rw[mr,if_neg (by omega),if_pos (by simpa using h46)],rfl,rfl⟩
theorem yQ(x:Value)(bs:List UInt8)(hb:bs.length≤1000000000):DT 133 #[x] (IsW x bs) [] (dL (λv H=>(mr bs=none∧v= .tuple #[.slice none 0 0, .bool false]∧H=[])∨∃t u,mr bs=some t∧v= .tuple #[u, .bool true]∧H=[dV u t 5])):=λw G h m=>by
 obtain⟨a,c,rfl,hc,_⟩:=h.form;exact GB a c bs hc hb w G h m
theorem uR(n:Nat)(hn:n≤1000000000000):
 DT 145 #[(.int .i64 (((n:Nat):Int)))] T0 [] (RI (.int .i64 ((bc n:Nat):Int)) []):=by
 refine BD 9 Tryz.func145 rfl rfl rfl λw0 F hF=>sr λ_ J1=>PS ?_
 refine nx J1 (aa λ_ J2=>sr λ_ J3=>P2 ?_);refine aq ?_ ?_<;>intro h4;refine nx J3 (CY (sr λ_ J4=>PS ?_));refine nx J4 (ak (ae (WK [] (aw rfl rfl ?_))));obtain rfl:n=0:=by omega
 exact⟨rfl,rfl⟩;refine nx J3 (CN (qx J2 (sr λ_ J5=>PS ?_)));refine tp (jV rfl rfl rfl (bO (by omega) (by omega))) ?_;refine tp (PV.quo (r:=(((n-1) / 52:Nat):Int)) rfl rfl rfl (by omega) (by rw[show(((n:Nat):Int)-1)=((n-1:Nat):Int)by omega];exact Mh (n-1) 52 (by omega))) ?_;refine AD ?_;refine PS ?_;refine nx J5 (ak (WK [] (aw rfl rfl ?_)));rw[bc,if_neg (by omega)];exact⟨by simp,rfl⟩
theorem Em{number:Int}{bs:List UInt8}{k:Nat}:na number bs (k+1)=na number bs k++[pF (ju number k (bc bs.length) (g8 bs k))++[1]]:=El number bs k
theorem Ap(a:Option Addr)(c number:Nat)(bs:List UInt8)(hc:bs.length≤c)(hb:bs.length≤3000):
 DT 147 #[(.int .i64 (((number:Nat):Int))),(.slice a bs.length c)] (IsW (.slice a bs.length c) bs) [] (dL (λv H=>H=[mx 62 5 v (bk ((number:Nat):Int) bs)])):=by
 refine BD 68 Tryz.func147 rfl rfl rfl λw0 F hF=>sr λ_ J1=>PS ?_
 refine nx J1 (sr λ_ J2=>PS ?_);refine tp (dW rfl ia rfl ⟨_,_,rfl⟩) ?_;refine CE Lp (uR bs.length (by omega)) ID ?_;refine PS ?_;refine nx J2 (sr λ_ J3=>PS ?_);refine nx J3 (aa λ_ J4=>sr λ_ J5=>P2 ?_);refine nx J5 (av ?_)
 refine bG (α:=(Nat)×(Value)) (λ⟨k,vr⟩=>k≤bc bs.length∧vr.oneCell'=true) (λ⟨k,vr⟩=>[(0,(.int .i64 (((number:Nat):Int)))),(1,(.slice a bs.length c)),(4,(.slice none 0 0)),(5,(.int .i64 (((bc bs.length:Nat):Int)))),(6,vr),(14,(.int .i64 (((bc bs.length:Nat):Int)))),(15,(.int .i64 (((k:Nat):Int))))]) (λ⟨k,vr⟩=>[mx 62 5 vr (na ((number:Nat):Int) bs k)]) (λ⟨k,vr⟩=>bc bs.length-k) (0,(.slice none 0 0))
  ⟨aP _,rfl⟩ SB
  (λ_ s=>uI 62 5 s) (λ⟨k,vr⟩ hinv=>?_)
 obtain⟨hk,hvr⟩:=hinv;refine sr λ_ J6=>PS ?_
 refine aq ?_ ?_<;>intro h16;have hkn:=Ku (n:=bs.length) (k:=k) (by omega);have hpe:=Kv bs k;have hP:IsW (kh (.slice a bs.length c) (k*52) (min ((k+1)*52) bs.length)) (g8 bs k) F:=by rw[←hpe];exact hF.cut (by omega) (by omega)
 have hpl:=qL bs k;have hpk:=o6 hb;have hP2:=hP.len;refine nx J6 (aa λ_ J7=>CY (qx J7 (aa λ_ J8=>av (sr λ_ J9=>P2 ?_))));refine nx J9 (sr λ_ J10=>P2 ?_);refine tp (Lh (r:=((k*52:Nat):Int)) rfl rfl rfl (by rw[show((k:Nat):Int)*52=((k*52:Nat):Int)by omega];exact bO (by omega) (by omega))) ?_;refine PS ?_;refine AD ?_;refine tp (Lh (r:=(((k+1)*52:Nat):Int)) rfl rfl rfl (by rw[show(((k:Nat):Int)+1)*52=(((k+1)*52:Nat):Int)by omega];exact bO (by omega) (by omega))) ?_;refine PS ?_;refine tp (dW rfl ia rfl ⟨_,_,rfl⟩) ?_;refine tp (PV.minI rfl rfl rfl) ?_;refine tp (PV.sliceLH (lo:=k*52) (hi:=min ((k+1)*52) bs.length) rfl ia lO rfl rfl rfl rfl (by omega) (by omega) (by omega)) ?_;refine PS ?_;refine nx J10 (sr λ_ J11=>TL.makeB (59) (59) (ab rfl) rfl rfl rfl ia zv rfl rfl rfl rfl (by omega) (by omega) (λb28=>PS ?_));refine nx J11 (aa λ_ J12=>sr λ_ J13=>PS ?_);refine nx J13 (av (sh 5 (sr λ_ J14=>PS ?_)));refine nx J14 (aa λ_ J15=>CY (qx J15 (aa λ_ J16=>av (sr λ_ J17=>P2 ?_))));refine nx J17 (ag (P4 ?_));refine tp (jV (r:=3) rfl rfl rfl (by decide)) ?_;refine tp (Lh (r:=24) rfl rfl rfl (by decide)) ?_;refine tp (l7 (r:=((number:Nat):Int).fdiv 16777216) rfl rfl rfl (by omega) rfl) ?_;refine tp (eN (r:=(((r8 (((number:Nat):Int).fdiv 16777216)).toNat:Nat):Int)) rfl Y3 Y5 rfl (r8_wrap _)) ?_
 refine tp (jW (r:=0) rfl ia lO rfl rfl (by first|omega|decide) (by first|omega|decide) rfl) ?_;refine S0 0 lO ?_;refine ax (ah (af J16 (ag (tp (cG (r:=1) rfl rfl rfl (by decide)) ?_))));refine PS ?_;refine ax (eM (sr λ_ J18=>PS ?_));refine nx J18 (aa λ_ J19=>CY (qx J19 (aa λ_ J20=>av (sr λ_ J21=>P2 ?_))));refine nx J21 (ag (P4 ?_));refine tp (jV (r:=2) rfl rfl rfl (by decide)) ?_;refine tp (Lh (r:=16) rfl rfl rfl (by decide)) ?_;refine tp (l7 (r:=((number:Nat):Int).fdiv 65536) rfl rfl rfl (by omega) rfl) ?_;refine tp (eN (r:=(((r8 (((number:Nat):Int).fdiv 65536)).toNat:Nat):Int)) rfl Y3 Y5 rfl (r8_wrap _)) ?_;refine tp (jW (r:=1) rfl ia lO rfl rfl (by first|omega|decide) (by first|omega|decide) rfl) ?_;refine S0 0 lO ?_;refine ax (ah (af J20 (ag (tp (cG (r:=2) rfl rfl rfl (by decide)) ?_))));refine PS ?_;refine ax (eM (sr λ_ J22=>PS ?_));refine nx J22 (aa λ_ J23=>CY (qx J23 (aa λ_ J24=>av (sr λ_ J25=>P2 ?_))));refine nx J25 (ag (P4 ?_));refine tp (jV (r:=1) rfl rfl rfl (by decide)) ?_;refine tp (Lh (r:=8) rfl rfl rfl (by decide)) ?_;refine tp (l7 (r:=((number:Nat):Int).fdiv 256) rfl rfl rfl (by omega) rfl) ?_;refine tp (eN (r:=(((r8 (((number:Nat):Int).fdiv 256)).toNat:Nat):Int)) rfl Y3 Y5 rfl (r8_wrap _)) ?_;refine tp (jW (r:=2) rfl ia lO rfl rfl (by first|omega|decide) (by first|omega|decide) rfl) ?_;refine S0 0 lO ?_
 refine ax (ah (af J24 (ag (tp (cG (r:=3) rfl rfl rfl (by decide)) ?_))));refine PS ?_;refine ax (eM (sr λ_ J26=>PS ?_));refine nx J26 (aa λ_ J27=>CY (qx J27 (aa λ_ J28=>av (sr λ_ J29=>P2 ?_))));refine nx J29 (ag (P4 ?_));refine tp (jV (r:=0) rfl rfl rfl (by decide)) ?_;refine tp (Lh (r:=0) rfl rfl rfl (by decide)) ?_;refine tp (l7 (r:=((number:Nat):Int)) rfl rfl rfl (by omega) (Int.fdiv_one _)) ?_;refine tp (eN (r:=(((r8 (((number:Nat):Int))).toNat:Nat):Int)) rfl Y3 Y5 rfl (r8_wrap _)) ?_;refine tp (jW (r:=3) rfl ia lO rfl rfl (by first|omega|decide) (by first|omega|decide) rfl) ?_;refine S0 0 lO ?_;refine ax (ah (af J28 (ag (tp (cG (r:=4) rfl rfl rfl (by decide)) ?_))));refine PS ?_;refine ax (eM (sr λ_ J30=>PS ?_));refine nx J30 (aa λ_ J31=>CN (bg (aC (aC (bD (af J12 (sr λ_ J32=>P4 ?_)))))));refine tp (eN (r:=(((r8 (((k:Nat):Int))).toNat:Nat):Int)) rfl Y3 Y5 rfl (r8_wrap _)) ?_;refine PS ?_;refine tp (eN (r:=(((r8 (((bc bs.length:Nat):Int))).toNat:Nat):Int)) rfl Y3 Y5 rfl (r8_wrap _)) ?_;refine PS ?_;refine tp (dW rfl ia rfl hP2) ?_;refine tp (eN (r:=(((r8 ((((g8 bs k).length:Nat):Int))).toNat:Nat):Int)) rfl Y3 Y5 rfl (r8_wrap _)) ?_;refine tp (jW (r:=4) rfl ia lO rfl rfl (by first|omega|decide) (by first|omega|decide) rfl) ?_;refine S0 0 lO ?_;refine tp (jW (r:=5) rfl ia lO rfl rfl (by first|omega|decide) (by first|omega|decide) rfl) ?_;refine S0 0 lO ?_
 refine tp (jW (r:=6) rfl ia lO rfl rfl (by first|omega|decide) (by first|omega|decide) rfl) ?_;refine S0 0 lO ?_;refine nx J32 (sr λ_ J33=>PS ?_);refine tp (PV.sliceLo (k:=7) (v:=(.slice (some ⟨b28,7,none⟩) (52) (52))) rfl ia lO rfl rfl rfl (by decide) rfl) ?_;refine PS ?_;refine M0 (i:=0) (m:=(g8 bs k).length) (news:=(eS (g8 bs k))) (H':=[an b28 (eS (ju ((number:Nat):Int) k (bc bs.length) (g8 bs k))) 5,mx 62 5 vr (na ((number:Nat):Int) bs k)]) (ab rfl) rfl rfl rfl ia lO rfl rfl rfl rfl (λ_ _=>hP.src (λ_ h=>fC h)) (fy _) (by show 7+min (g8 bs k).length 52≤59;omega) (GA (number:=((number:Nat):Int)) (place:=k) (all:=bc bs.length) hpl) rfl (nx J33 (ag (P2 ?_)));refine CQ Nx (uE (.slice (some ⟨b28,0,none⟩) (59) (59)) (ju ((number:Nat):Int) k (bc bs.length) (g8 bs k)) (by rw[jM hpl];decide)) ID (λg d s=>L6 (Je 0 59 (jM hpl) (by decide) rfl rfl g d s)) λvR HR hR=>?_
 subst hR;refine aZ (cells:=#[(.int .u8 1)]) (ab rfl) rfl rfl rfl ia zv rfl rfl rfl (by as_aux_lemma=>kernel_rfl) (λb62=>cM (k:=1) (news:=eS ([1])) (nn':=(pF (ju ((number:Nat):Int) k (bc bs.length) (g8 bs k))++[1]:List UInt8).length) (xs':=eS (pF (ju ((number:Nat):Int) k (bc bs.length) (g8 bs k))++[1])) (ab rfl) rfl rfl rfl ia zv rfl rfl rfl rfl rfl rfl (λ_ _=>jU rfl (RO 0) rfl) (fy [1]) (by rw[k8,jM hpl];simp only[maxLen];omega) (by rw[k8,jM hpl];omega) (by simp) (js _ _).symm (λv63 ov63=>aZ (cells:=#[v63]) (ab rfl) rfl rfl rfl vq Ht rfl rfl rfl (s9 ov63 (by simp)) (λb64=>?_)));change TL _ _ _ _ _ _ _ _ _ [an b64 [v63] 62,an b62 [(.int .u8 1)] 5,dV v63 (pF (ju ((number:Nat):Int) k (bc bs.length) (g8 bs k))++[1]) 5,an b28 (eS (ju ((number:Nat):Int) k (bc bs.length) (g8 bs k))) 5,mx 62 5 vr (na ((number:Nat):Int) bs k)];refine cB (λ_ s=>aE [4] rfl s) (L2 (λus65=>cM (k:=0) (m:=1) (news:=[v63]) (nn':=(na ((number:Nat):Int) bs k).length+1) (xs':=us65++[v63]) (ab rfl) rfl rfl rfl vq Ht rfl rfl rfl rfl rfl rfl (λ_ _=>jU rfl (RO 2) rfl) (List.forall_mem_cons.2 ⟨ov63,λ_ h=>by cases h⟩) (by rw[yV];simp only[maxLen];omega) (by rw[yV];omega) rfl rfl (λv65 ov65=>?_)))
 change TL _ _ _ _ _ _ _ _ _ [own v65 ((na ((number:Nat):Int) bs k).length+1) (us65++[v63]) 62 1,eR us65 (na ((number:Nat):Int) bs k) 5,an b64 [v63] 62,an b62 [(.int .u8 1)] 5,dV v63 (pF (ju ((number:Nat):Int) k (bc bs.length) (g8 bs k))++[1]) 5,an b28 (eS (ju ((number:Nat):Int) k (bc bs.length) (g8 bs k))) 5];refine cB (λ_ s=>An 4 rfl rfl s) (cB (H':=[own v65 ((na ((number:Nat):Int) bs k).length+1) (us65++[v63]) 62 1,eR us65 (na ((number:Nat):Int) bs k) 5,ic v63 (pF (ju ((number:Nat):Int) k (bc bs.length) (g8 bs k))++[1]) 5,an b64 [v63] 62,an b62 [(.int .u8 1)] 5,an b28 (eS (ju ((number:Nat):Int) k (bc bs.length) (g8 bs k))) 5]) (λ_ s=>aE [0,0,2] rfl s) (cB (λ_ s=>uK s) ?_));rw[←Em];refine PS ?_;refine ax (ah (af J8 (ag (AD ?_))));refine PS ?_;refine ax ?_
 exact aN ((k+1,v65):(Nat)×(Value)) ⟨by omega,ov65⟩ (by show bc bs.length- (k+1)<bc bs.length-k;omega)
  SB
  (λ_ s=>ao [0] rfl s)
 refine nx J6 (aa λ_ J34=>CN (bg (aC (aC (bD (af J4 (sr λ_ J35=>P2 ?_)))))));refine nx J35 (ak (WK [0] (aw rfl rfl ?_)));obtain rfl:k=bc bs.length:=by omega
 exact rfl
theorem Aq(x:Value)(number:Nat)(bs:List UInt8)(hb:bs.length≤3000):DT 147 #[.int .i64 ((number:Nat):Int),x] (IsW x bs) [] (dL (λv H=>H=[mx 62 5 v (bk ((number:Nat):Int) bs)])):=λw G h m=>by
 obtain⟨a,c,rfl,hc,_⟩:=h.form;exact Ap a c number bs hc hb w G h m
theorem wW(s:ix)(number place:Int)(hs:s.length=64):
 DT 115 #[(.agg (eS s).toArray),(.int .i64 (number)),(.int .i64 (place))] T0 [] (dL (λv H=>(fg s number place=none∧v= .tuple #[.slice none 0 0, .int .i64 0, .bool false]∧H=[])∨∃b all u,fg s number place=some (b,all)∧v= .tuple #[u, .int .i64 all, .bool true]∧H=[ic u b 5])):=by
 refine Leg.Does.body (n:=74) Tryz.func115 rfl rfl rfl (λw0 F hF=>sr λ_ J1=>XB λb3=>?_);change TL _ _ _ _ _ _ _ _ _ [an b3 (eS s) 98]
 iterate 3 refine PS ?_
 refine nx J1 (sr λ_ J2=>tp (P7 (k:=63) rfl Fy lO rfl rfl (by omega) (by omega) rfl) ?_);refine CQ Lv (yQ (.slice (some ⟨b3,0,none⟩) (63) (64)) (s.take 63) (by rw[bp];omega)) (λ_ s=>s) (λg d s'=>L6 (Hr 0 63 (by omega) (by omega) (by decide) (by rw[aD (by rw[bz];omega)]) hs.symm rfl rfl g d s')) λvR HR hR=>?_
 rcases hR with⟨ht,rfl,rfl⟩| ⟨t,u,ht,rfl,rfl⟩
 refine PS ?_;refine tp (c9 (vs:=[(.slice none 0 0),(.bool false)]) rfl rfl rfl) ?_;refine tp (c9 (vs:=[(.slice none 0 0),(.bool false)]) rfl rfl rfl) ?_;refine PS ?_;refine PS ?_;refine nx J2 (aa λ_ J3=>sr λ_ J4=>PS ?_);refine tp (jm (r:=true) rfl rfl rfl) ?_;refine PS ?_
 iterate 3 refine UT ?_
 refine PS ?_;refine nx J4 (CY (sr λ_ J5=>?_))
 iterate 3 refine PS ?_
 exact nx J5 (ak (ae (WK [] (nz rfl rfl rfl rfl (.inl ⟨AE ht,rfl,rfl⟩)))));have htl:=yR ht;rw[bp]at htl;have ht59:t.length=59:=by omega
 refine kl 0 rfl rfl (by omega) (λg cap hv hcap=>PS ?_);refine tp (c9 (vs:=[u,(.bool true)]) rfl rfl rfl) ?_;refine tp (c9 (vs:=[u,(.bool true)]) rfl rfl rfl) ?_;refine PS ?_;refine PS ?_;refine nx J2 (aa λ_ J6=>sr λ_ J7=>PS ?_);refine tp (jm (r:=false) rfl rfl rfl) ?_;refine PS ?_;refine tq (nX (r:=63) rfl Fy lO rfl rfl (lz rfl) (lz rfl) rfl) ?_;refine tq (fY (v:=(.int .u8 ((((s.getD 63 0).toNat:Nat):Int)))) rfl Y5 rfl rfl (RO 1) (rk (by omega))) ?_;refine PS ?_;refine aq (λh26=>?_) (λh26=>?_);refine PS ?_;refine nx J7 (CY (sr λ_ J8=>?_))
 iterate 3 refine PS ?_
 refine nx J8 (ak (ae (WK [] (nz rfl rfl rfl rfl ?_))));exact .inl ⟨nc (λh=>h26 (by rw[h];rfl)),rfl,rfl⟩;refine PS ?_;refine nx J7 (CN (qx J6 (sr λ_ J9=>PS ?_)));refine nx J9 (aa λ_ J10=>sr λ_ J11=>PS ?_);refine tp (Qd (PV.sliceH (a:=some ⟨g,0,none⟩) (len:=t.length) (cap:=cap) (hi:=4) rfl ia lO (by rw[←hv];rfl) rfl rfl (by omega)) (KW (by omega))) ?_;refine tp (tE rfl ia rfl) ?_;refine PS ?_;refine nx J11 (av ?_)
 refine bG (α:=(Nat)) (λk=>k≤4) (λk=>[(1,(.int .i64 (number))),(2,(.int .i64 (place))),(6,(.slice none 0 0)),(7,(.int .i64 0)),(8,(.bool false)),(9,u),(11,(.int .i64 (Dz (t.take k)))),(29,(.slice (some ⟨g,0,none⟩) (4) (cap))),(30,(.int .i64 4)),(31,(.int .i64 (((k:Nat):Int))))]) (λk=>[dV u (t) 5,an b3 (eS s) 98]) (λk=>4-k) 0
  (aP _) SB
  (λ_ s=>s) (λk hinv=>?_)
 obtain hk:=hinv;refine sr λ_ J12=>PS ?_
 refine aq (λh32=>?_) (λh32=>?_);refine nx J12 (aa λ_ J13=>CY (qx J13 (aa λ_ J14=>av (sr λ_ J15=>tp (jW (r:=k) rfl ia lO rfl rfl (by first|omega|decide) (by first|omega|decide) (by omega)) ?_))));refine tp (de (v:=(.int .u8 ((((t.getD k 0).toNat:Nat):Int)))) rfl Y5 rfl rfl (gO 0 rfl hv rfl) (rk (by omega))) ?_;refine PS ?_;refine nx J15 (ag (PS ?_));refine tp (yz (r:=IntKind.i64.wrap ((Dz (t.take k))*2^8)) rfl rfl rfl (by omega) rfl) ?_;refine PS ?_;refine tp (eN (r:=(((t.getD k 0).toNat:Nat):Int)) rfl Y5 Y3 rfl (bO (by omega) (by have:=UInt8.toNat_lt (n:=t.getD k 0);omega))) ?_;refine tp (JM (r:=gH .i64 (IntKind.i64.wrap ((Dz (t.take k))*2^8)) (((t.getD k 0).toNat:Nat):Int)) rfl rfl rfl rfl) ?_;refine PS ?_;refine ax (ah (af J14 (ag (AD ?_))));refine PS ?_;refine ax ?_
 exact aN ((k+1):(Nat)) (by omega) (by show 4- (k+1)<4-k;omega)
  (aW (aW (aW (aW (aW (aW (bJ rfl (congrArg (Value.int .i64) (JB (by omega)).symm) SB)))))))
  (λ_ s=>s)
 refine nx J12 (aa λ_ J16=>CN (bg (aC (aC (bD (af J10 (aa λ_ J17=>r9 (λw=>Frm F w∧Hx g (eS (t)) w∧True) el rfl (λ_ s=>⟨fC s,gO 0 rfl hv rfl _ s,trivial⟩) (PD 0 ?_))))))));refine ta 1 rfl (ca (r:=5) hv rfl ia lO rfl rfl (by omega) (by omega) rfl) ?_;refine ta 2 rfl (de (v:=(.int .u8 ((((t.getD 5 0).toNat:Nat):Int)))) rfl Y5 rfl rfl (λ_ h=>h.2.1) (rk (by omega))) ?_;refine ta 3 rfl (eN (r:=(((t.getD 5 0).toNat:Nat):Int)) rfl Y5 Y3 rfl (bO (by omega) (by have:=UInt8.toNat_lt (n:=t.getD 5 0);omega))) ?_;refine PD 4 ?_;refine ta 5 rfl (ca (r:=6) hv rfl ia lO rfl rfl (by omega) (by omega) rfl) ?_;refine ta 6 rfl (de (v:=(.int .u8 ((((t.getD 6 0).toNat:Nat):Int)))) rfl Y5 rfl rfl (λ_ h=>h.2.1) (rk (by omega))) ?_;refine ta 7 rfl (eN (r:=(((t.getD 6 0).toNat:Nat):Int)) rfl Y5 Y3 rfl (bO (by omega) (by have:=UInt8.toNat_lt (n:=t.getD 6 0);omega))) ?_;refine PD 8 ?_;refine PD 9 ?_;refine DN (af J17 (aa λ_ J18=>sr λ_ J19=>?_))
 iterate 3 refine PS ?_
 refine aq (λh51=>?_) (λh51=>?_);refine PS ?_
 iterate 6 refine UT ?_
 refine PS ?_;refine PS ?_
 iterate 3 refine UT ?_
 refine PS ?_;refine PS ?_;refine UT ?_;refine UT ?_;refine PS ?_;refine nx J19 (CY (sr λ_ J20=>?_))
 iterate 3 refine PS ?_
 refine nx J20 (ak (ae (WK [] (nz rfl rfl rfl rfl ?_))));exact .inl ⟨mG ht (.inl (by have:k=4:=(by omega);subst this;exact h51)),rfl,rfl⟩;refine PS ?_;refine PS ?_;refine tq (ca (r:=4) hv rfl ia lO rfl rfl (by omega) (by omega) rfl) ?_;refine tq (de (v:=(.int .u8 ((((t.getD 4 0).toNat:Nat):Int)))) rfl Y5 rfl rfl (gO 0 rfl hv rfl) (rk (by omega))) ?_;refine tq (eN (r:=(((t.getD 4 0).toNat:Nat):Int)) rfl Y5 Y3 rfl (bO (by omega) (by have:=UInt8.toNat_lt (n:=t.getD 4 0);omega))) ?_;refine PS ?_;refine PS ?_;refine aq (λh58=>?_) (λh58=>?_);refine PS ?_;refine PS ?_
 iterate 3 refine UT ?_
 refine PS ?_;refine PS ?_;refine UT ?_;refine UT ?_;refine PS ?_;refine nx J19 (CY (sr λ_ J21=>?_))
 iterate 3 refine PS ?_
 exact nx J21 (ak (ae (WK [] (nz rfl rfl rfl rfl (.inl ⟨mG ht (.inr (.inl h58)),rfl,rfl⟩)))))
 iterate 5 refine PS ?_
 refine aq (λh63=>?_) (λh63=>?_);refine PS ?_;refine PS ?_;refine UT ?_;refine UT ?_;refine PS ?_;refine nx J19 (CY (sr λ_ J22=>?_))
 iterate 3 refine PS ?_
 exact nx J22 (ak (ae (WK [] (nz rfl rfl rfl rfl (.inl ⟨mG ht (.inr (.inr (.inl h63))),rfl,rfl⟩)))))
 iterate 4 refine PS ?_
 refine aq (λh67=>?_) (λh67=>?_);refine PS ?_;refine nx J19 (CY (sr λ_ J23=>?_))
 iterate 3 refine PS ?_
 exact nx J23 (ak (ae (WK [] (nz rfl rfl rfl rfl (.inl ⟨mG ht (.inr (.inr (.inr h67))),rfl,rfl⟩)))));refine PS ?_;refine nx J19 (CN (qx J18 (sr λ_ J24=>PS ?_)));refine PS ?_;refine tp (cG (r:=((7+(t.getD 6 0).toNat:Nat):Int)) rfl rfl rfl (by rw[show(7:Int)+(((t.getD 6 0).toNat:Nat):Int)=((7+(t.getD 6 0).toNat:Nat):Int)by omega];have:=UInt8.toNat_lt (n:=t.getD 6 0);exact bO (by omega) (by omega))) ?_;refine tp (Qd (PV.sliceLH (a:=some ⟨g,0,none⟩) (len:=t.length) (cap:=cap) (lo:=7) (hi:=7+(t.getD 6 0).toNat) rfl ia lO (by rw[←hv];rfl) rfl rfl rfl rfl (by omega) (by omega)) (congrArg (λq=>kh q 7 (7+(t.getD 6 0).toNat)) hv.symm)) ?_
 iterate 4 refine PS ?_
 refine nx J24 (ak (aG (H':=[ic (kh u 7 (7+(t.getD 6 0).toNat)) ((t.drop 7).take (t.getD 6 0).toNat) 5]) (dP _) (λ_ s'=>ao [0] rfl (wz 0 rfl rfl hv (by omega) (by omega) (by omega) (by rw[oK,cv]) s')) (nz rfl rfl rfl rfl ?_)));obtain rfl:k=4:=by omega
 have h1:s.getD 63 0=1:=UInt8.toNat_inj.1 (by have h1':(1:UInt8).toNat=1:=rfl;omega);exact .inr ⟨_,_,_,Cs ht h1 (by omega),rfl,rfl⟩
end Go.Proofs.YtmcjhkbcmmddgaaGreat
end

section
namespace Wal
open Go Leg Codec Api Dsk
theorem um(i:Nat){us:List Value}{ls:List (List UInt8)}{e k:Nat}{B:List HP}{F:Hl}(hk:k<ls.length)(hi:Nat.blt i B.length=true)(hH:B.getD i (λ_=>True)=eR us ls e): ∀g,Dj g F→bN B g→IsB (us.getD k undef) ls[k] (jn g F):=λg d s=>by
 obtain⟨h1,h2,d',rfl,a,_⟩:=e6 i (lb hi) s;rw[hH]at a;obtain⟨hl,a⟩:=a;obtain⟨u,e1,k1,k2,dk,rfl,a3⟩:=xB us ls e _ hl a k hk;rw[List.getD_eq_getElem?_getD,e1];exact BP a3 λb o e=>iB (iB (iB e))
theorem In.read{s ws:fH}(h1:In s)(h2:In ws)(at':Int)(h: ¬(0≤at'∧at'<2048)): ∀k,k≤ws.length→iU s ws at' k=zs
 |0,_=>by
  show gG s at'=zs
  induction s with
  |nil=>rfl
  |cons p s ih=>
   obtain⟨a,b⟩:=p;simp only[gG];have hh:=h1 (a,b) (by simp);rw[if_neg (λe=>h (by simp only at hh;omega))];exact ih λq hq=>h1 q (by simp[hq])
 |k+1,hk=>by
  simp only[iU];rw[if_neg,In.read h1 h2 at' h k (by omega)];intro e;rw[tO (by omega)]at e;have hh:=h2 ws[k] (eg _);exact h (by omega)
theorem DS.In.read{D:DS}(h:Wal.DS.In D){at':Int}(h2: ¬(0≤at'∧at'<2048)):D.read at'=zs:=Wal.In.read h.1 h.2 at' h2 _ (aM _)
theorem G3(number place:Int):fg zs number place=none:=nc (by decide)
theorem xa{rd:Int→ix}{number at' all:Int}: ∀(m:Nat) {b:List UInt8},la rd number at' all m=some b→∀k,k<m→∃x,fg (rd (at'+k)) number k=some (x,all)
 |0,_,_,k,hk=>by omega
 |m+1,b,h,k,hk=>by
  simp only[la]at h;split at h
  · cases h
  · rename_i b' hb
    split at h
    · cases h
    · rename_i x same hx
      split at h
      · rename_i hs
        by_cases e:k=m
        · subst e;exact⟨x,by rw[hx,hs]⟩
        · exact xa m hb k (by omega)
      · cases h
theorem ka{rd:Int→ix}{number at' all:Int}{b:List UInt8}(hl:(rd at').length=64)(h:fJ rd number at'=some (b,all)):0<all∧all≤255∧∀k:Nat,(k:Int)<all→∃x,fg (rd (at'+k)) number k=some (x,all):=by
 unfold fJ at h;split at h
 · cases h
 · rename_i x al hp
   obtain⟨f1,f2,_⟩:=o7 hl hp;obtain⟨c,hc,e⟩:=Option.map_eq_some_iff.1 h;injection e with e1 e2
   subst e1;subst e2;exact⟨f1,f2,λk hk=>xa _ hc k (by omega)⟩
theorem oU{D:DS}(hI:Wal.DS.In D)(hD:D.Ok){number at' all:Int}{b:List UInt8}(h0:0≤at')(h:fJ D.read number at'=some (b,all)):at'+all≤2048:=by
 obtain⟨f1,f2,f3⟩:=ka (mc hD _) h;obtain⟨x,hx⟩:=f3 (all-1).toNat (by omega)
 by_cases q:at'+all≤2048
 · exact q
 · rw[DS.In.read hI (by omega),G3]at hx;cases hx
theorem qK{rd:Int→ix}{f:Nat}{cnt used:Int}(h:fJ rd (cnt+1) used=none):fW rd f cnt used=([],used):=by
 cases f with
 |zero=>rfl
 |succ f=>simp only[fW,h]
theorem Ar{rd:Int→ix}{f:Nat}{cnt used all:Int}{b:List UInt8}(h:fJ rd (cnt+1) used=some (b,all)):fW rd (f+1) cnt used=(b::(fW rd f (cnt+1) (used+all)).1,(fW rd f (cnt+1) (used+all)).2):=by simp only[fW,h]
def Scan(D:DS)(f:Nat)(rs:List (List UInt8))(used:Int):Prop:=
 fW D.read iH 0 0=(rs++(fW D.read f rs.length used).1,(fW D.read f rs.length used).2)∧0≤used∧used≤2048∧2049≤(f:Int)+used∧(rs.length:Int)≤used
theorem Scan.start(D:DS):Scan D iH [] 0:=by
 refine⟨?_,by omega,by omega,by rw[qm];omega,by simp⟩;have e:((([]:List (List UInt8)).length:Nat):Int)=0:=rfl;rw[bu,e]
theorem Scan.next{D:DS}(hI:Wal.DS.In D)(hD:D.Ok){f:Nat}{rs:List (List UInt8)}{used all:Int}{b:List UInt8}(h:Scan D f rs used)(h2:fJ D.read ((rs.length:Int)+1) used=some (b,all)): ∃f',f=f'+1∧Scan D f' (rs++[b]) (used+all):=by
 obtain⟨h1,h0,h3,h4,h5⟩:=h;have hr:=oU hI hD h0 h2;have hf:=(ka (mc hD _) h2).1;obtain⟨f',rfl⟩: ∃f',f=f'+1:=⟨f-1,by omega⟩;refine⟨f',rfl,?_,by omega,by omega,by omega,by simp;omega⟩;rw[h1,Ar h2];simp
theorem Scan.stop{D:DS}{f:Nat}{rs:List (List UInt8)}{used:Int}(h:Scan D f rs used)(h2:fJ D.read ((rs.length:Int)+1) used=none):fW D.read iH 0 0=(rs,used):=by
 rw[h.1,qK h2];simp
theorem Bs{D:DS}{at':Int}(h:2048≤at'):gP (2048-at').toNat at' D=(0,D):=by rw[show(2048-at').toNat=0 by omega];rfl
theorem Gq{D:DS}{at':Int}(h:at'<2048)(h2:D.read at'=zs):gP (2048-at').toNat at' D=gP (2048- (at'+1)).toNat (at'+1) D:=by
 rw[show(2048-at').toNat=(2048- (at'+1)).toNat+1 by omega,gP,if_pos h2]
theorem JZ{D:DS}{at':Int}(h:at'<2048)(h2:D.read at'≠zs)(h3:(D.write at' []).1=0):gP (2048-at').toNat at' D=gP (2048- (at'+1)).toNat (at'+1) (D.write at' []).2:=by
 rw[show(2048-at').toNat=(2048- (at'+1)).toNat+1 by omega,gP,if_neg h2,if_pos h3]
theorem Gr{D:DS}{at':Int}(h:at'<2048)(h2:D.read at'≠zs)(h3:(D.write at' []).1≠0):gP (2048-at').toNat at' D=D.write at' []:=by
 rw[show(2048-at').toNat=(2048- (at'+1)).toNat+1 by omega,gP,if_neg h2,if_neg h3]
theorem wZ{D D':DS}{rs:List (List UInt8)}{used e:Int}(h:fW D.read iH 0 0=(rs,used))(h2:gP (2048-used).toNat used D=(e,D'))(h3:e≠0):bI D=⟨e,[],0,D'⟩:=by
 simp only[bI,h,h2];rw[if_pos h3]
theorem EA{D D':DS}{rs:List (List UInt8)}{used:Int}(h:fW D.read iH 0 0=(rs,used))(h2:gP (2048-used).toNat used D=(0,D'))(h3:D'.sync.1≠0):bI D=⟨D'.sync.1,[],0,D'.sync.2⟩:=by
 simp only[bI,h,h2,ne_eq,not_true_eq_false,if_false];rw[if_pos h3]
theorem AF{D D':DS}{rs:List (List UInt8)}{used:Int}(h:fW D.read iH 0 0=(rs,used))(h2:gP (2048-used).toNat used D=(0,D'))(h3:D'.sync.1=0):bI D=⟨0,rs,used,D'.sync.2⟩:=by
 simp only[bI,h,h2,ne_eq,not_true_eq_false,if_false];rw[if_neg (by simp[h3])]
def fQ:List ix→Int→DS→Int×DS
 | [],_,D=>(0,D)
 |s::ss,at',D=>if(D.write at' s).1=0 then fQ ss (at'+1) (D.write at' s).2 else D.write at' s
structure PutR where
 err:Int
 cnt:Nat
 used:Int
 D:DS
def ln(D:DS)(cnt:Nat)(used:Int)(bs:List UInt8):PutR:=
 if 3000<bs.length then⟨2,cnt,used,D⟩
 else if(bc bs.length:Int)>2048-used then⟨3,cnt,used,D⟩
 else
  let w:=fQ (bk ((cnt+1:Nat):Int) bs) used D
  if w.1≠0 then⟨w.1,cnt,used,w.2⟩else if w.2.sync.1≠0 then⟨w.2.sync.1,cnt,used,w.2.sync.2⟩else⟨0,cnt+1,used+bc bs.length,w.2.sync.2⟩
theorem Bp{ss:List ix}{at':Int}{D:DS}{k:Nat}(hk:k<ss.length)(h:(D.write (at'+k) ss[k]).1=0):fQ (ss.drop k) (at'+k) D=fQ (ss.drop (k+1)) (at'+(k+1:Nat)) (D.write (at'+k) ss[k]).2:=by
 rw[dA hk,fQ,if_pos h];congr 1;omega
theorem Bq{ss:List ix}{at':Int}{D:DS}{k:Nat}(hk:k<ss.length)(h:(D.write (at'+k) ss[k]).1≠0):fQ (ss.drop k) (at'+k) D=D.write (at'+k) ss[k]:=by
 rw[dA hk,fQ,if_neg h]
section
variable {D D':DS} {cnt:Nat} {used:Int} {bs:List UInt8}
theorem IE(h:3000<bs.length):ln D cnt used bs=⟨2,cnt,used,D⟩:=by rw[ln,if_pos h]
theorem Co(h: ¬3000<bs.length)(h2:(bc bs.length:Int)>2048-used):ln D cnt used bs=⟨3,cnt,used,D⟩:=by rw[ln,if_neg h,if_pos h2]
theorem zc{e:Int}(h: ¬3000<bs.length)(h2: ¬(bc bs.length:Int)>2048-used)(h3:fQ (bk ((cnt+1:Nat):Int) bs) used D=(e,D'))(h4:e≠0):ln D cnt used bs=⟨e,cnt,used,D'⟩:=by
 rw[ln,if_neg h,if_neg h2];simp only[h3];rw[if_pos h4]
theorem GX(h: ¬3000<bs.length)(h2: ¬(bc bs.length:Int)>2048-used)(h3:fQ (bk ((cnt+1:Nat):Int) bs) used D=(0,D'))(h4:D'.sync.1≠0):ln D cnt used bs=⟨D'.sync.1,cnt,used,D'.sync.2⟩:=by
 rw[ln,if_neg h,if_neg h2];simp only[h3,ne_eq,not_true_eq_false,if_false];rw[if_pos h4]
theorem put_ok(h: ¬3000<bs.length)(h2: ¬(bc bs.length:Int)>2048-used)(h3:fQ (bk ((cnt+1:Nat):Int) bs) used D=(0,D'))(h4:D'.sync.1=0):ln D cnt used bs=⟨0,cnt+1,used+bc bs.length,D'.sync.2⟩:=by
 rw[ln,if_neg h,if_neg h2];simp only[h3,ne_eq,not_true_eq_false,if_false];rw[if_neg (by simp[h4])]
end
end Wal
end

section
namespace Go.Proofs.YtmcjhkbcmmddgaaGreat
open Go Leg Codec Api Dsk Wal
abbrev F6(lg d:Nat)(cnt used:Int):HP:=an lg [.pointer (some ⟨d,0,none⟩), .int .i64 cnt, .int .i64 used] 162
abbrev OP(v:Value)(ls:List (List UInt8)):HP:=mx 62 5 v ls
theorem B2(d:Nat)(D:DS)(number at':Int)(hD:D.Ok)(hb:D.ws.length≤1000000000)(ha:0≤at'∧at'≤1000000):
 DT 81 #[(.pointer (some ⟨d,0,none⟩)),(.int .i64 (number)),(.int .i64 (at'))] T0 [dk d (D)] (dL (λv H=>(fJ D.read number at'=none∧v= .tuple #[.slice none 0 0, .int .i64 0, .bool false]∧H=[dk d D])∨∃b all u,fJ D.read number at'=some (b,all)∧v= .tuple #[u, .int .i64 all, .bool true]∧H=[ic u b 5,dk d D])):=by
 refine BD 56 Tryz.func81 rfl rfl rfl λw0 F hF=>sr λ_ J1=>P3 ?_
 refine nx J1 (sr λ_ J2=>P2 ?_);refine CR Ml (A2 d (D) at' hD hb) ID λvR HR hR=>?_
 obtain⟨hv,rfl⟩:=hR;subst hv;refine PS ?_;refine CR Lx (wW ((D).read at') number 0 (mc hD _)) ID λvR HR hR=>?_
 rcases hR with⟨hp,rfl,rfl⟩| ⟨b,all,u,hp,rfl,rfl⟩
 refine P4 ?_;refine P3 ?_;refine nx J2 (aa λ_ J3=>sr λ_ J4=>PS ?_);refine PS ?_;refine nx J4 (CY (sr λ_ J5=>P3 ?_));exact nx J5 (ak (ae (WK [0] (nz rfl rfl rfl rfl (.inl ⟨qZ hp,rfl,rfl⟩)))));refine TL.subLen 0 rfl rfl (λhul hu=>?_);have hpf:=o7 (mc hD _) hp;refine P4 ?_;refine P3 ?_;refine nx J2 (aa λ_ J6=>sr λ_ J7=>PS ?_);refine PS ?_;refine nx J7 (CN (qx J6 (aa λ_ J8=>sr λ_ J9=>PS ?_)));refine nx J9 (av ?_)
 refine bG (α:=(Nat)×(List UInt8)×(Value)) (λ⟨k,c,w⟩=>1≤k∧k≤all.toNat∧la D.read number at' all k=some c∧c.length≤k*52∧w.oneCell'=true) (λ⟨k,c,w⟩=>[(0,(.pointer (some ⟨d,0,none⟩))),(1,(.int .i64 (number))),(2,(.int .i64 (at'))),(9,w),(10,(.int .i64 (all))),(12,(.int .i64 (((k:Nat):Int))))]) (λ⟨k,c,w⟩=>[ic w (c) 5,dk d (D)]) (λ⟨k,c,w⟩=>all.toNat-k) (1,b,u)
  ⟨aM _,by omega,Hk hp,by omega,hu⟩ SB
  (λ_ s=>s) (λ⟨k,c,w⟩ hinv=>?_)
 obtain⟨hk1,hk2,hk3,hk4,hw⟩:=hinv;refine aa λ_ J10=>sr λ_ J11=>P3 ?_
 refine aq ?_ ?_<;>intro h29;refine nx J11 (CY (qx J10 (aa λ_ J12=>av (sr λ_ J13=>P3 ?_))));refine AD ?_;refine CR Ml (A2 d (D) (at'+((k:Nat):Int)) hD hb) (SM [1]) λvR HR hR=>?_
 obtain⟨hv,rfl⟩:=hR;subst hv;refine P2 ?_;refine CR Lx (wW ((D).read (at'+((k:Nat):Int))) number ((k:Nat):Int) (mc hD _)) ID λvR HR hR=>?_
 rcases hR with⟨hp2,rfl,rfl⟩| ⟨b2,all2,u2,hp2,rfl,rfl⟩
 refine P4 ?_;refine P3 ?_;refine nx J13 (aa λ_ J14=>sr λ_ J15=>PS ?_);refine PS ?_;refine PS ?_
 iterate 3 refine UT ?_
 refine PS ?_;refine nx J15 (CY (sr λ_ J16=>P3 ?_));refine nx J16 (ak (ae (aI (ae (ae (aI (ae (WK [0] (nz rfl rfl rfl rfl ?_)))))))));exact .inl ⟨qY hp (w9 (.inl hp2) _ (by omega)),rfl,rfl⟩;refine TL.subLen 0 rfl rfl (λhul2 hu2=>?_);have hpf2:=o7 (mc hD _) hp2;refine P4 ?_;refine P3 ?_;refine nx J13 (aa λ_ J17=>sr λ_ J18=>PS ?_);refine PS ?_;refine P4 ?_;refine aq ?_ ?_<;>intro h49;refine PS ?_;refine nx J18 (CY (sr λ_ J19=>P3 ?_));refine nx J19 (ak (ae (aI (ae (ae (aI (ae (WK [1] (nz rfl rfl rfl rfl ?_)))))))));exact .inl ⟨qY hp (w9 (.inr ⟨b2,all2,hp2,h49⟩) _ (by omega)),rfl,rfl⟩;refine PS ?_;refine nx J18 (CN (qx J17 (ag (P2 ?_))));refine TL.appendS (k:=2) (news:=b2) (bs':=c++b2) (ab rfl) rfl rfl rfl ia zv rfl rfl rfl rfl (λ_ s=>Src.sub 0 rfl rfl s) (by omega) rfl (λv53 ov53=>PS ?_);refine ax (ah (af J12 (ag (PS ?_))));refine AD ?_;refine PS ?_;refine ax ?_
 exact aN ((k+1,c++b2,v53):(Nat)×(List UInt8)×(Value)) ⟨by omega,by omega,xb hk3 (by rw[hp2,show all2=all by omega]),by rw[aj];omega,ov53⟩ (by show all.toNat- (k+1)<all.toNat-k;omega)
  SB
  (λ_ s=>ao [2,1] rfl s)
 refine nx J11 (CN (bg (aC (aC (bD (af J8 (sr λ_ J20=>?_)))))))
 iterate 5 refine PS ?_
 refine nx J20 (ak (WK [0,0] (nz rfl rfl rfl rfl ?_)));exact .inr ⟨c,all,w,sH hp (by rw[show all.toNat=k by omega];exact hk3),rfl,rfl⟩
theorem GQ(lg d:Nat)(cnt used:Int)(h:0≤used∧used≤2048):
 DT 146 #[(.pointer (some ⟨lg,0,none⟩))] T0 [an lg [(.pointer (some ⟨d,0,none⟩)),(.int .i64 (cnt)),(.int .i64 (used))] 162] (RI (.int .i64 (2048-used)) [F6 lg d cnt used]):=by
 refine BD 8 Tryz.func146 rfl rfl rfl λw0 F hF=>sr λ_ J1=>PS ?_
 refine nx J1 (sr λ_ J2=>P2 ?_);refine FA 2 qV aQ ?_;refine LA 0 Y3 ?_;refine tp (jV rfl rfl rfl (bO (by omega) (by omega))) ?_;refine PS ?_;exact nx J2 (ak (WK [0] (aw rfl rfl ⟨rfl,rfl⟩)))
theorem By(lg d cnt:Nat)(used:Int)(x:Value)(bs:List UInt8)(D:DS)(hD:D.Ok)(hb:D.ws.length≤1000000)(hu:0≤used∧used≤2048)(hc:cnt≤1000000):
 DT 131 #[(.pointer (some ⟨lg,0,none⟩)),x] (IsW x bs) [an lg [(.pointer (some ⟨d,0,none⟩)),(.int .i64 (((cnt:Nat):Int))),(.int .i64 (used))] 162,dk d (D)] (RI (.int .i64 (ln D cnt used bs).err) [F6 lg d (((ln D cnt used bs).cnt:Nat):Int) (ln D cnt used bs).used,dk d (ln D cnt used bs).D]):=by
 refine BD 72 Tryz.func131 rfl rfl rfl λw0 F hF=>sr λ_ J1=>PS ?_
 refine nx J1 (aa λ_ J2=>sr λ_ J3=>PS ?_);refine tp (dW rfl ia rfl hF.len) ?_;refine PS ?_;refine aq ?_ ?_<;>intro h12;refine nx J3 (CY (sr λ_ J4=>PS ?_));refine nx J4 (ak (ae (WK [0,0] (aw rfl rfl ?_))));rw[IE (by omega)];exact⟨rfl,rfl⟩;refine nx J3 (CN (qx J2 (sr λ_ J5=>PS ?_)));refine tp (dW rfl ia rfl hF.len) ?_;refine CE Lp (uR bs.length (by omega)) ID ?_;refine PS ?_;refine nx J5 (aa λ_ J6=>sr λ_ J7=>P2 ?_);refine CE NS (GQ lg d ((cnt:Nat):Int) used hu) ID ?_;refine PS ?_;refine aq ?_ ?_<;>intro h19;refine nx J7 (CY (sr λ_ J8=>PS ?_));refine nx J8 (ak (ae (WK [0,0] (aw rfl rfl ?_))));rw[Co (by omega) (by omega)];exact⟨rfl,rfl⟩;refine nx J7 (CN (qx J6 (aa λ_ J9=>sr λ_ J10=>P2 ?_)));refine FA 1 qV aQ ?_;refine LA 0 Y3 ?_;refine tp (Qd (v':=(.int .i64 (((cnt+1:Nat):Int)))) (cG rfl rfl rfl (bO (by omega) (by omega))) rfl) ?_;refine PS ?_;refine CQ NR (Aq x (cnt+1) bs (by omega)) ID (λg d _=>Oz hF d) λvR HR hR=>?_
 have hR:=hR;subst hR;change TL _ _ _ _ _ _ _ _ _ [mx 62 5 vR (bk ((cnt+1:Nat):Int) bs),an lg [(.pointer (some ⟨d,0,none⟩)),(.int .i64 (((cnt:Nat):Int))),(.int .i64 (used))] 162,dk d (D)];refine TL.recsLen 0 rfl rfl (λhrl hro=>?_);rw[cy]at hrl;refine tp (dW rfl vq rfl hrl) ?_;refine PS ?_;refine nx J10 (av ?_)
 refine bG (α:=(Nat)×(DS)) (λ⟨k,D'⟩=>k≤bc bs.length∧fQ (bk ((cnt+1:Nat):Int) bs) used D=fQ ((bk ((cnt+1:Nat):Int) bs).drop k) (used+(k:Nat)) D'∧D'.Ok∧D'.ws.length≤D.ws.length+k) (λ⟨k,D'⟩=>[(0,(.pointer (some ⟨lg,0,none⟩))),(5,(.int .i64 (((bc bs.length:Nat):Int)))),(26,vR),(27,(.int .i64 ((((bc bs.length):Nat):Int)))),(28,(.int .i64 (((k:Nat):Int))))]) (λ⟨k,D'⟩=>[an lg [(.pointer (some ⟨d,0,none⟩)),(.int .i64 (((cnt:Nat):Int))),(.int .i64 (used))] 162,dk d (D'),mx 62 5 vR (bk ((cnt+1:Nat):Int) bs)]) (λ⟨k,D'⟩=>bc bs.length-k) (0,D)
  ⟨aP _,by simp,hD,by omega⟩ SB
  (λ_ s=>aE [1,1,0] rfl s) (λ⟨k,D'⟩ hinv=>?_)
 obtain⟨hk,hwr,hD',hws⟩:=hinv;refine sr λ_ J11=>PS ?_
 refine aq ?_ ?_<;>intro h29;refine cB (λ_ s=>aE [2] rfl s) (L2 (λus=>?_));change TL _ _ _ _ _ _ _ _ _ [own vR ((bk ((cnt+1:Nat):Int) bs).length) (us) 62 1,eR us (bk ((cnt+1:Nat):Int) bs) 5,an lg [(.pointer (some ⟨d,0,none⟩)),(.int .i64 (((cnt:Nat):Int))),(.int .i64 (used))] 162,dk d (D')];refine yu (p:=us.length=(bk ((cnt+1:Nat):Int) bs).length*1) (λw m=>m.own_len (i:=0) (lb rfl) rfl) (λhul=>?_);rw[cy,fZ]at hul;have hkl:k< (bk ((cnt+1:Nat):Int) bs).length:=by rw[cy];omega
 obtain⟨sk,hsk⟩: ∃x,(bk ((cnt+1:Nat):Int) bs)[k]=x:=⟨_,rfl⟩;refine kl 0 rfl rfl (by omega) (λg cap hv hcap=>nx J11 (aa λ_ J12=>CY (qx J12 (aa λ_ J13=>av (sr λ_ J14=>PS ?_)))));refine tp (ca (r:=k) hv rfl vq n4 rfl rfl (by omega) (by omega) (by omega)) ?_;refine tp (de (v:=(us.getD k undef)) rfl ia rfl rfl (gO 0 rfl hv rfl) (by simp[List.getD_eq_getElem?_getD,show k<us.length by omega])) ?_;refine P2 ?_;refine nx J14 (aa λ_ J15=>D1 2 el ?_);refine PD 0 ?_;refine PD 1 ?_;refine FD 2 0 qV wm ?_;refine LX 3 JG (.pointer (some ⟨d,0,none⟩)) ?_ (hc:=by exact rfl);refine PD 4 ?_;refine PD 5 ?_;refine FD 6 2 qV aQ ?_;refine LX 7 Y3 (.int .i64 (used)) ?_ (hc:=by exact rfl);refine PD 8 ?_;refine ta 9 rfl (cG rfl rfl rfl (bO (by omega) (by omega))) ?_;refine PD 10 ?_;refine AL 11 ?_;refine CQ NC (Di d D' (used+((k:Nat):Int)) (us.getD k undef) sk hD' (by omega)) (SM [3]) (λg d s=>L6 (hsk▸um 1 hkl rfl rfl g d s)) λvR HR hR=>?_
 obtain⟨hv2,rfl⟩:=hR;subst hv2;refine EN (PD 12 ?_);refine DN (af J15 (sr λ_ J16=>P2 ?_));refine aq ?_ ?_<;>intro h46;refine nx J16 (CY (sr λ_ J17=>P2 ?_));refine nx J17 (ak (aI (ae (ae (aI (ae (WK [3,0] (aw rfl rfl ?_))))))));have hf:=Bq (D:=D') (at':=used) hkl (by rw[hsk];exact h46);rw[hsk]at hf;rw[zc (by omega) (by omega) (hwr.trans hf) h46];exact⟨rfl,rfl⟩;refine nx J16 (CN (aT (ah (af J13 (ag (AD ?_))))));refine PS ?_;refine ax ?_
 exact aN ((k+1,(D'.write (used+((k:Nat):Int)) sk).2):(Nat)×(DS)) ⟨by omega,by rw[hwr];subst hsk;exact Bp hkl (by simpa using h46),DS.write_ok hD' _ _,by have:=DS.write_ws (D:=D') (at':=used+((k:Nat):Int)) (bs:=sk);omega⟩ (by show bc bs.length- (k+1)<bc bs.length-k;omega)
  SB
  (λ_ s=>aE [1,1,0] rfl (br (p:=λus:List Value=>[own vR (bk ((cnt+1:Nat):Int) bs).length us 62 1,eR us (bk ((cnt+1:Nat):Int) bs) 5]) us (ao [1,1,1,0] rfl s)))
 refine nx J11 (aa λ_ J18=>CN (bg (aC (aC (bD (af J9 (aa λ_ J19=>sr λ_ J20=>P2 ?_)))))));refine FA 0 qV wm ?_;refine LA 0 JG ?_;refine CR NB (Gc d (D') hD') (SM [1]) λvR HR hR=>?_
 obtain⟨hv,rfl⟩:=hR;subst hv;refine PS ?_;refine nx J20 (sr λ_ J21=>P2 ?_);refine aq ?_ ?_<;>intro h55;refine nx J21 (CY (sr λ_ J22=>P2 ?_));refine nx J22 (ak (ae (WK [1,0] (aw rfl rfl ?_))));have hf:fQ (bk ((cnt+1:Nat):Int) bs) used D=(0,D'):=by rw[hwr,cq (by rw[cy];omega)];rfl
 rw[GX (by omega) (by omega) hf h55];exact⟨rfl,rfl⟩;refine nx J21 (CN (qx J19 (sr λ_ J23=>P2 ?_)));refine FA 1 qV aQ ?_;refine LA 1 Y3 ?_;refine AD ?_;refine PS ?_;refine FA 1 qV aQ ?_;refine S0 1 aQ ?_;refine nx J23 (sr λ_ J24=>P2 ?_);refine FA 2 qV aQ ?_;refine LA 1 Y3 ?_;refine PS ?_;refine AD ?_;refine PS ?_;refine FA 2 qV aQ ?_;refine S0 1 aQ ?_;refine nx J24 (sr λ_ J25=>PS ?_);refine nx J25 (ak (WK [1,0] (aw rfl rfl ?_)));have hf:fQ (bk ((cnt+1:Nat):Int) bs) used D=(0,D'):=by rw[hwr,cq (by rw[cy];omega)];rfl
 rw[put_ok (by omega) (by omega) hf (by simpa using h55)];exact⟨rfl,rfl⟩
theorem Ha(d:Nat)(D:DS)(hD:D.Ok)(hI:Wal.DS.In D)(hb:D.ws.length≤1000000):
 DT 48 #[(.pointer (some ⟨d,0,none⟩))] T0 [dk d (D)] (dL (λv H=>((bI D).err≠0∧v= .tuple #[.pointer none, .slice none 0 0, .int .i64 (bI D).err]∧H=[dk d (bI D).D])∨((bI D).err=0∧∃lg vr,v= .tuple #[.pointer (some ⟨lg,0,none⟩),vr, .int .i64 0]∧H=[F6 lg d (((bI D).recs.length:Nat):Int) (bI D).used,OP vr (bI D).recs,dk d (bI D).D]))):=by
 refine BD 80 Tryz.func48 rfl rfl rfl λw0 F hF=>sr λ_ J1=>P3 ?_
 refine nx J1 (aa λ_ J2=>sr λ_ J3=>PS ?_);refine tp (km rfl JG rfl rfl) ?_;refine nx J3 (CN (qx J2 (sr λ_ J4=>PS ?_)));refine BV #[(.pointer (some ⟨d,0,none⟩)),(.int .i64 0),(.int .i64 0)] ?_;refine XB λb17=>?_
 refine PS ?_;refine nx J4 (sr λ_ J5=>PS ?_);refine nx J5 (aa λ_ J6=>av ?_)
 refine bG (α:=(Nat)×(List (List UInt8))×(Int)×(Value)) (λ⟨f,rs,used,vr⟩=>Scan D f rs used∧vr.oneCell'=true) (λ⟨f,rs,used,vr⟩=>[(0,(.pointer (some ⟨d,0,none⟩))),(2,(.pointer none)),(3,(.slice none 0 0)),(4,(.int .i64 0)),(5,(.pointer (some ⟨b17,0,none⟩))),(6,vr)]) (λ⟨f,rs,used,vr⟩=>[an b17 [(.pointer (some ⟨d,0,none⟩)),(.int .i64 (((rs.length:Nat):Int))),(.int .i64 (used))] 162,dk d (D),mx 62 5 vr (rs)]) (λ⟨f,rs,used,vr⟩=>f) (iH,[],0,(.slice none 0 0))
  ⟨Scan.start D,rfl⟩ SB
  (λ_ s=>eF (List.Perm.trans (List.Perm.swap _ _ _) (List.Perm.cons _ (List.Perm.swap _ _ _))) (uI 62 5 s)) (λ⟨f,rs,used,vr⟩ hinv=>?_)
 obtain⟨hsc,hvr⟩:=hinv;obtain⟨hs1,hs2,hs3,hs4,hs5⟩:=id hsc;refine av (aa λ_ J7=>D1 0 el ?_);refine PD 0 ?_;refine PD 1 ?_;refine PD 2 ?_;refine FD 3 1 qV aQ ?_;refine LX 4 Y3 (.int .i64 (((rs.length:Nat):Int))) ?_ (hc:=by exact rfl);refine ta 5 rfl (cG rfl rfl rfl (bO (by omega) (by omega))) ?_;refine PD 6 ?_;refine PD 7 ?_;refine FD 8 2 qV aQ ?_;refine LX 9 Y3 (.int .i64 (used)) ?_ (hc:=by exact rfl);refine AL 10 ?_;refine CR Po (B2 d D (((rs.length:Nat):Int)+1) used hD (by omega) (by omega)) (SM [1]) λvR HR hR=>?_
 rcases hR with⟨hst,rfl,rfl⟩| ⟨b,all,u,hst,rfl,rfl⟩
 have hss:=Scan.stop hsc hst;refine EN (PD 11 ?_);refine PD 12 ?_;refine PD 13 ?_;refine PD 14 ?_;refine PD 15 ?_;refine PD 16 ?_;refine PD 17 ?_;refine DN (af J7 (aa λ_ J8=>sr λ_ J9=>PS ?_));refine PS ?_;refine nx J9 (CY (bg (aC (TE.miss (by decide) (aC (bD (af J6 (aa λ_ J10=>sr λ_ J11=>P2 ?_))))))));refine FA 2 qV aQ ?_;refine LA 1 Y3 ?_;refine PS ?_;refine nx J11 (av ?_)
 refine bG (α:=(Int)×(DS)) (λ⟨at',D'⟩=>used≤at'∧at'≤2048∧gP (2048-used).toNat used D=gP (2048-at').toNat at' D'∧D'.Ok∧D'.ws.length≤D.ws.length+(at'-used).toNat) (λ⟨at',D'⟩=>[(0,(.pointer (some ⟨d,0,none⟩))),(5,(.pointer (some ⟨b17,0,none⟩))),(6,vr),(10,(.int .i64 (at')))]) (λ⟨at',D'⟩=>[an b17 [(.pointer (some ⟨d,0,none⟩)),(.int .i64 (((rs.length:Nat):Int))),(.int .i64 (used))] 162,dk d (D'),mx 62 5 vr (rs)]) (λ⟨at',D'⟩=>(2048-at').toNat) (used,D)
  ⟨by omega,by omega,rfl,hD,by omega⟩ SB
  (λ_ s=>ao [1,0,0] rfl s) (λ⟨at',D'⟩ hinv=>?_)
 obtain⟨ha1,ha2,hwi,hD',hws⟩:=hinv;refine aa λ_ J12=>sr λ_ J13=>P2 ?_
 refine aq ?_ ?_<;>intro h59;refine nx J13 (CY (qx J12 (aa λ_ J14=>av (aa λ_ J15=>sr λ_ J16=>P2 ?_))));refine CR Ml (A2 d (D') at' hD' (by omega)) (SM [1]) λvR HR hR=>?_
 obtain⟨hv,rfl⟩:=hR;subst hv;refine BV ((eS zs).toArray) ?_;refine tp (PV.eqlBy (a:=((D').read at')) (b:=zs) (m:=2) O7 O2 rfl Pa Pc Pb (mc hD' _) (by decide) rfl rfl rfl) ?_;refine aq ?_ ?_<;>intro h66;refine nx J16 (CY (bg (aC (bD (af J14 (ag (PS ?_)))))));refine AD ?_;refine PS ?_;refine ax ?_
 exact aN ((at'+1,D'):(Int)×(DS)) ⟨by omega,by omega,by rw[hwi];exact Gq (by omega) h66,hD',by omega⟩ (by show(2048- (at'+1)).toNat< (2048-at').toNat;omega)
  SB
  (λ_ s=>ao [1,0,0] rfl s)
 refine nx J16 (CN (qx J15 (sr λ_ J17=>P2 ?_)));refine CQ NC (Di d (D') at' (.slice none 0 0) ([]) hD' (by omega)) ID (λ_ _ _=> .inl (.inl ⟨rfl,rfl⟩)) λvR HR hR=>?_
 obtain⟨hv,rfl⟩:=hR;subst hv;refine PS ?_;refine nx J17 (sr λ_ J18=>P2 ?_);refine aq ?_ ?_<;>intro h71;refine nx J18 (CY (sr λ_ J19=>P4 ?_));refine nx J19 (ak (aI (ae (ae (aI (ae (WK [0] (nz rfl rfl rfl rfl ?_))))))));rw[wZ hss (hwi.trans (Gr (by omega) h66 h71)) h71];exact .inl ⟨h71,rfl,rfl⟩;refine nx J18 (CN (aT (ah (af J14 (ag (PS ?_))))));refine AD ?_;refine PS ?_;refine ax ?_
 exact aN ((at'+1,(D'.write at' []).2):(Int)×(DS)) ⟨by omega,by omega,by rw[hwi];exact JZ (by omega) h66 (by simpa using h71),DS.write_ok hD' _ _,by have:=DS.write_ws (D:=D') (at':=at') (bs:=[]);omega⟩ (by show(2048- (at'+1)).toNat< (2048-at').toNat;omega)
  SB
  (λ_ s=>ao [1,0,0] rfl s)
 refine nx J13 (CN (bg (aC (aC (bD (af J10 (aa λ_ J20=>sr λ_ J21=>PS ?_)))))));refine CR NB (Gc d (D') hD') (SM [1]) λvR HR hR=>?_
 obtain⟨hv,rfl⟩:=hR;subst hv;refine PS ?_;refine nx J21 (sr λ_ J22=>P2 ?_);refine aq ?_ ?_<;>intro h76;refine nx J22 (CY (sr λ_ J23=>P4 ?_));refine nx J23 (ak (ae (WK [0] (nz rfl rfl rfl rfl ?_))));rw[EA hss (hwi.trans (Bs (by omega))) h76];exact .inl ⟨h76,rfl,rfl⟩;refine nx J22 (CN (qx J20 (sr λ_ J24=>?_)))
 iterate 5 refine PS ?_
 refine nx J24 (ak (WK [1,1,0] (nz rfl rfl rfl rfl ?_)));have h76':D'.sync.1=0:=by omega
 rw[AF hss (hwi.trans (Bs (by omega))) h76'];exact .inr ⟨rfl,b17,vr,rfl,rfl⟩;have hro:=oU hI hD (by omega) hst;have hfa:=(ka (mc hD _) hst).1;obtain⟨f',rfl,hsn⟩:=Scan.next hI hD hsc hst;refine TL.subLen 0 rfl rfl (λhul hu=>EN (PD 11 ?_));refine PD 12 ?_;refine PD 13 ?_;refine PD 14 ?_;refine PD 15 ?_;refine PD 16 ?_;refine PD 17 ?_;refine DN (af J7 (aa λ_ J25=>sr λ_ J26=>PS ?_));refine PS ?_;refine nx J26 (CN (qx J25 (sr λ_ J27=>P2 ?_)));refine aZ (cells:=#[u]) (ab rfl) rfl rfl rfl vq Ht rfl rfl rfl (s9 hu (by simp)) (λb37=>?_);change TL _ _ _ _ _ _ _ _ _ [an b37 [u] 62,ic u (b) 5,dk d (D),an b17 [(.pointer (some ⟨d,0,none⟩)),(.int .i64 (((rs.length:Nat):Int))),(.int .i64 (used))] 162,mx 62 5 vr (rs)];refine cB (λ_ s=>aE [4] rfl s) (L2 (λus38=>cM (k:=0) (m:=1) (news:=[u]) (nn':=(rs).length+1) (xs':=us38++[u]) (ab rfl) rfl rfl rfl vq Ht rfl rfl rfl rfl rfl rfl (λ_ _=>jU rfl (RO 2) rfl) (List.forall_mem_cons.2 ⟨hu,λ_ h=>by cases h⟩) (by simp only[maxLen];omega) (by omega) rfl rfl (λv38 ov38=>?_)));change TL _ _ _ _ _ _ _ _ _ [own v38 ((rs).length+1) (us38++[u]) 62 1,eR us38 (rs) 5,an b37 [u] 62,ic u (b) 5,dk d (D),an b17 [(.pointer (some ⟨d,0,none⟩)),(.int .i64 (((rs.length:Nat):Int))),(.int .i64 (used))] 162]
 refine cB (H':=[own v38 ((rs).length+1) (us38++[u]) 62 1,eR us38 (rs) 5,ic u (b) 5,an b37 [u] 62,dk d (D),an b17 [(.pointer (some ⟨d,0,none⟩)),(.int .i64 (((rs.length:Nat):Int))),(.int .i64 (used))] 162]) (λ_ s=>aE [0,0,1] rfl s) (cB (λ_ s=>uK s) (PS ?_));refine nx J27 (sr λ_ J28=>P2 ?_);refine FA 1 qV aQ ?_;refine LA 3 Y3 ?_;refine tp (Qd (v':=(.int .i64 ((((rs++[b]).length:Nat):Int)))) (cG rfl rfl rfl (bO (by omega) (by omega))) (congrArg (Value.int .i64) (by simp))) ?_;refine PS ?_;refine FA 1 qV aQ ?_;refine S0 3 aQ ?_;refine nx J28 (ag (P2 ?_));refine FA 2 qV aQ ?_;refine LA 3 Y3 ?_;refine PS ?_;refine AD ?_;refine PS ?_;refine FA 2 qV aQ ?_;refine S0 3 aQ ?_;refine ax (ah ?_)
 exact aN ((f',rs++[b],used+all,v38):(Nat)×(List (List UInt8))×(Int)×(Value)) ⟨hsn,ov38⟩ (Nat.lt_succ_self _)
  SB
  (λ_ s=>ao [3,2,0] rfl s)
end Go.Proofs.YtmcjhkbcmmddgaaGreat
end

section
namespace Wal
open Go Leg Codec Api Dsk
theorem B3(s ws:fH)(j:Int): ∀k,gG (CJ s ws k) j=iU s ws j k
 |0=>rfl
 |k+1=>by
  rw[CJ,iU,kY,B3 s ws j k]
  by_cases h:j=(kF ws k).1
  · rw[if_pos h,if_pos h.symm]
  · rw[if_neg h,if_neg (λq=>h q.symm)]
theorem Ia{ws x:fH}{k:Nat}(h:k<ws.length):kF (ws++x) k=kF ws k:=by simp[kF,List.getD_eq_getElem?_getD,List.getElem?_append_left h]
theorem wN{s ws x:fH}{j:Int}: ∀k,k≤ws.length→iU s (ws++x) j k=iU s ws j k
 |0,_=>rfl
 |k+1,h=>by rw[iU,iU,Ia (by omega),wN k (by omega)]
theorem GW(s ws:fH)(p:Int×ix)(j:Int):iU s (ws++[p]) j (ws++[p]).length=if j=p.1 then p.2 else iU s ws j ws.length:=by
 rw[aj,az,aB,bm,iU,wN _ (aM _)];have:kF (ws++[p]) ws.length=p:=by simp[kF,List.getD_eq_getElem?_getD]
 rw[this]
 by_cases h:j=p.1
 · rw[if_pos h,if_pos h.symm]
 · rw[if_neg h,if_neg (λq=>h q.symm)]
def yb(D:DS)(at':Int)(bs:List UInt8):DS:= {D with ws:=D.ws++[(at',eV bs)],lf:=if D.ar=true then D.lf-1 else D.lf,dn:=false}
theorem oM{D:DS}{at':Int}{bs:List UInt8}(h1:0≤at'∧at'<2048)(h2:bs.length≤64)(h3:D.dn=false)(h4:D.ar=false∨0<D.lf):D.write at' bs=(0,yb D at' bs):=by
 rw[DS.write,if_neg (by omega),if_neg]
 · rfl
 · rintro (h| ⟨h,h5⟩)
   · rw[h3]at h;cases h
   · rcases h4 with h4|h4
     · rw[h4]at h;cases h
     · omega
theorem rj{D:DS}{at':Int}{bs:List UInt8}(h1:0≤at'∧at'<2048)(h2:bs.length≤64)(h4:D.ar=true∧D.lf=0):D.write at' bs=(4,{D with dn:=true}):=by
 rw[DS.write,if_neg (by omega),if_pos (.inr h4)]
theorem ze(D:DS)(at':Int)(bs:List UInt8)(j:Int):(yb D at' bs).read j=if j=at' then eV bs else D.read j:=GW _ _ _ _
theorem vG{D:DS}(h:D.Ok){at':Int}{bs:List UInt8}(h2:bs.length≤64)(h4:D.ar=false∨0<D.lf):(yb D at' bs).Ok:=by
 refine⟨h.s,h.ws.add _ (dG h2),?_⟩;have:=h.lf;show 0≤(if D.ar=true then D.lf-1 else D.lf)∧(if D.ar=true then D.lf-1 else D.lf)≤9223372036854775807;split
 · rename_i h5
   rcases h4 with h4|h4
   · rw[h4]at h5;cases h5
   · omega
 · exact this
theorem vH{D:DS}(h:Wal.DS.In D){at':Int}{bs:List UInt8}(h1:0≤at'∧at'<2048):Wal.DS.In (yb D at' bs):=⟨h.1,λp hp=>by
 rcases bA.1 hp with hp|hp
 · exact h.2 p hp
 · simp only[aX]at hp;subst hp;exact h1⟩
theorem In.put{s:fH}(h:In s){k:Int}{v:ix}(h1:0≤k∧k<2048):In (oo s k v):=by
 induction s with
 |nil=>intro p hp;simp only[oo,aX]at hp;subst hp;exact h1
 |cons p s ih=>
  obtain⟨a,b⟩:=p;intro q hq;simp only[oo]at hq;split at hq
  · rcases bV.1 hq with rfl|hq
    · exact h (a,b) (by simp)
    · exact h q (by simp[hq])
  · rcases bV.1 hq with rfl|hq
    · exact h (a,b) (by simp)
    · exact ih (λq hq=>h q (by simp[hq])) q hq
theorem In.lay{s ws:fH}(h:In s)(hw:In ws): ∀k,k≤ws.length→In (CJ s ws k)
 |0,_=>h
 |k+1,hk=>by
  have:=hw (kF ws k) (by rw[tO (by omega)];exact eg _);exact(In.lay h hw k (by omega)).put this
theorem In.crash{mask torn:Int}{c:Nat}{s ws:fH}(h:In s)(hw:In ws): ∀k,k≤ws.length→In (gU mask torn c s ws k)
 |0,_=>h
 |k+1,hk=>by
  have h1:=hw (kF ws k) (by rw[tO (by omega)];exact eg _);have ih:=In.crash (mask:=mask) (torn:=torn) (c:=c) h hw k (by omega);simp only[gU,jR];split
  · exact ih.put h1
  · split
    · exact ih.put h1
    · exact ih
theorem In.nil:In []:=λ_ h=>absurd h (by simp)
abbrev QA:= @In.nil
structure Calm(D:DS):Prop where
 ok:D.Ok
 inn:Wal.DS.In D
 ar:D.ar=false
 dn:D.dn=false
theorem Calm.crash{D:DS}(h:D.Ok)(hi:Wal.DS.In D)(mask torn n:Int):Calm (D.crash mask torn n):=⟨DS.crash_ok h _ _ _,⟨hi.1.crash hi.2 _ (aM _),QA⟩,rfl,rfl⟩
abbrev OF:= @Calm.crash
theorem tU{D:DS}(h:D.dn=false)(j:Int):D.sync.2.read j=D.read j:=by
 unfold DS.sync;rw[if_neg (by simp[h])];exact B3 _ _ _ _
theorem mS{D:DS}(h:D.dn=false):D.sync.1=0∧D.sync.2.ws=[]∧D.sync.2.dn=false∧D.sync.2.ar=D.ar∧D.sync.2.lf=D.lf:=by
 unfold DS.sync;rw[if_neg (by simp[h])];exact⟨rfl,rfl,h,rfl,rfl⟩
theorem vD{D:DS}(h:Wal.DS.In D):Wal.DS.In D.sync.2:=by
 unfold DS.sync;split
 · exact h
 · exact⟨h.1.lay h.2 _ (aM _),QA⟩
theorem Calm.sync{D:DS}(h:Calm D):Calm D.sync.2:=by
 obtain⟨_,_,h3,h4,_⟩:=mS h.dn;exact⟨OC h.ok,vD h.inn,h4.trans h.ar,h3⟩
theorem Calm.put{D:DS}(h:Calm D){at':Int}{bs:List UInt8}(h1:0≤at'∧at'<2048)(h2:bs.length≤64):Calm (yb D at' bs):=⟨vG h.ok h2 (.inl h.ar),vH h.inn h1,h.ar,rfl⟩
theorem wX:eV []=zs:=rfl
theorem tK: ∀(n:Nat) (at':Int) (D:DS),Calm D→0≤at'→at'+n≤2048→∃D',gP n at' D=(0,D')∧Calm D'∧∀j,D'.read j=if at'≤j∧j<at'+n then zs else D.read j
 |0,at',D,h,_,_=>⟨D,rfl,h,λj=>by rw[if_neg (by omega)]⟩
 |n+1,at',D,h,h0,h1=>by
  by_cases hz:D.read at'=zs
  · obtain⟨D',e,c,r⟩:=tK n (at'+1) D h (by omega) (by omega)
    refine⟨D',by rw[gP,if_pos hz,e],c,λj=>?_⟩;rw[r j]
    by_cases q:j=at'
    · subst q;rw[if_neg (by omega),if_pos (by omega),hz]
    · by_cases q2:at'+1≤j∧j<at'+1+n
      · rw[if_pos q2,if_pos (by omega)]
      · rw[if_neg q2,if_neg (by omega)]
  · have hw:=oM (D:=D) (at':=at') (bs:=[]) (by omega) (by simp) h.dn (.inl h.ar)
    obtain⟨D',e,c,r⟩:=tK n (at'+1) (yb D at' []) (h.put (by omega) (by simp)) (by omega) (by omega);refine⟨D',by rw[gP,if_neg hz,hw,if_pos rfl,e],c,λj=>?_⟩;rw[r j,ze,wX]
    by_cases q:j=at'
    · subst q;rw[if_neg (by omega),if_pos rfl,if_pos (by omega)]
    · rw[if_neg q]
      by_cases q2:at'+1≤j∧j<at'+1+n
      · rw[if_pos q2,if_pos (by omega)]
      · rw[if_neg q2,if_neg (by omega)]
theorem GK{D:DS}(h:Calm D):0≤(fW D.read iH 0 0).2∧(fW D.read iH 0 0).2≤2048∧((fW D.read iH 0 0).1.length:Int)≤(fW D.read iH 0 0).2:=by
 have key: ∀f rs used,Scan D f rs used→∃rs' used',fW D.read iH 0 0=(rs',used')∧0≤used'∧used'≤2048∧(rs'.length:Int)≤used':=by
  intro f
  induction f with
  |zero=>
   intro rs used hs;cases hst:fJ D.read ((rs.length:Int)+1) used with
   |none=>exact⟨rs,used,hs.stop hst,hs.2.1,hs.2.2.1,hs.2.2.2.2⟩
   |some p=>obtain⟨b,all⟩:=p;obtain⟨f',e,_⟩:=Scan.next h.inn h.ok hs hst;omega
  |succ f ih=>
   intro rs used hs;cases hst:fJ D.read ((rs.length:Int)+1) used with
   |none=>exact⟨rs,used,hs.stop hst,hs.2.1,hs.2.2.1,hs.2.2.2.2⟩
   |some p=>
    obtain⟨b,all⟩:=p;obtain⟨f',e,hs'⟩:=Scan.next h.inn h.ok hs hst;obtain rfl:f=f':=by omega
    exact ih _ _ hs'
 obtain⟨rs,used,e,h1,h2,h3⟩:=key _ _ _ (Scan.start D);rw[e];exact⟨h1,h2,h3⟩
theorem Hc{D:DS}(h:Calm D): ∃D',bI D=⟨0,(fW D.read iH 0 0).1,(fW D.read iH 0 0).2,D'⟩∧Calm D'∧D'.ws=[]∧∀j,D'.read j=if(fW D.read iH 0 0).2≤j∧j<2048 then zs else D.read j:=by
 obtain⟨h1,h2,_⟩:=GK h;generalize hr:fW D.read iH 0 0=r at*;obtain⟨rs,used⟩:=r;simp only at h1 h2 ⊢;obtain⟨D',e,c,rd⟩:=tK (2048-used).toNat used D h h1 (by omega);obtain⟨s1,s2,_⟩:=mS c.dn;refine⟨D'.sync.2,AF hr e s1,c.sync,s2,λj=>?_⟩;rw[tU c.dn,rd j]
 by_cases q:used≤j∧j<2048
 · rw[if_pos q,if_pos (by omega)]
 · rw[if_neg q,if_neg (by omega)]
def g9:Nat→List (List UInt8)→List ix
 |_,[]=>[]
 |n,b::ls=>bk ((n+1:Nat):Int) b++g9 (n+1) ls
def cz(ls:List (List UInt8)):Nat:=(g9 0 ls).length
theorem mK: ∀(a:List (List UInt8)) (n:Nat) (b:List (List UInt8)),g9 n (a++b)=g9 n a++g9 (n+a.length) b
 | [],n,b=>by simp[g9]
 |x::a,n,b=>by
  simp only[gf,g9,mK a (n+1) b,aV,az];rw[show n+1+a.length=n+(a.length+1)by omega]
theorem zy: ∀(ls:List (List UInt8)) (n m:Nat),(g9 n ls).length=(g9 m ls).length
 | [],_,_=>rfl
 |b::ls,n,m=>by simp only[g9,aj,cy,zy ls (n+1) (m+1)]
theorem tV(ls:List (List UInt8))(b:List UInt8):cz (ls++[b])=cz ls+bc b.length:=by
 simp[cz,mK,g9,cy]
theorem wt: ∀ls:List (List UInt8),ls.length≤cz ls
 | []=>aM _
 |b::ls=>by
  have h1:=wt ls;have h2:=lU b.length;have h3:=zy ls 1 0;simp only[cz,g9,aj,cy,az,h3]at*;omega
theorem sJ{number:Int}{b:List UInt8}{k:Nat}(h:k< (bk number b).length):(bk number b)[k]=mw number k (bc b.length) (g8 b k):=by simp[bk]
theorem mD(number:Int)(b:List UInt8): ∀s∈bk number b,s.length=64:=λs hs=>by
 obtain⟨i,_,rfl⟩:=dw.1 hs;exact GI (qL b i)
theorem rH{number:Int}{b:List UInt8}{k:Nat}(h:k< (bk number b).length)(h0:0≤number)(h1:number<4294967296)(hb:b.length≤3000):fg (bk number b)[k] number k=some (g8 b k,((bc b.length:Nat):Int)):=by
 rw[sJ h];rw[cy]at h;exact Ct (qL b k) h0 h1 h (by have:=o6 hb;omega)
theorem zl{rd:Int→ix}{number at':Int}{b:List UInt8}(h0:0≤number)(h1:number<4294967296)(hb:b.length≤3000): ∀k,k≤bc b.length→(∀j (h:j< (bk number b).length),j<k→rd (at'+j)=(bk number b)[j])→
 la rd number at' ((bc b.length:Nat):Int) k=some ((List.range k).map (g8 b)).flatten
 |0,_,_=>rfl
 |k+1,hk,h=>by
  have ih:=zl h0 h1 hb k (by omega) (λj hj hj2=>h j hj (by omega));have hl:k< (bk number b).length:=by rw[cy];omega
  rw[xb ih (by rw[h k hl (by omega)];exact rH hl h0 h1 hb)];simp[cX]
theorem uG{rd:Int→ix}{number at':Int}{b:List UInt8}(h0:0≤number)(h1:number<4294967296)(hb:b.length≤3000)(h: ∀j (h:j< (bk number b).length),rd (at'+j)=(bk number b)[j]):fJ rd number at'=some (b,((bc b.length:Nat):Int)):=by
 have hl:0< (bk number b).length:=by rw[cy];exact lU _
 have hp:fg (rd at') number 0=some (g8 b 0,((bc b.length:Nat):Int)):=by
  have e:=h 0 hl;rw[show at'+((0:Nat):Int)=at' by omega]at e;rw[e];exact rH hl h0 h1 hb
 refine sH hp ?_;rw[JQ,zl h0 h1 hb _ (aM _) (λj hj _=>h j hj),G5 b _ (ye _)]
def Shows(rd:Int→ix)(at':Int)(l:List ix):Prop:=∀j (h:j<l.length),rd (at'+j)=l[j]
theorem Shows.left{rd:Int→ix}{at':Int}{a b:List ix}(h:Shows rd at' (a++b)):Shows rd at' a:=λj hj=>by
 rw[h j (by rw[aj];omega),P8 hj]
theorem Shows.right{rd:Int→ix}{at':Int}{a b:List ix}(h:Shows rd at' (a++b)):Shows rd (at'+a.length) b:=λj hj=>by
 have:=h (a.length+j) (by rw[aj];omega);rw[show at'+((a.length+j:Nat):Int)=at'+a.length+j by omega]at this;rw[this,OU (by omega)];congr 1;omega
theorem wI{rd:Int→ix}: ∀(ls:List (List UInt8)) (n:Nat) (at':Int) (f:Nat),(∀b∈ls,b.length≤3000)→n+ls.length<4294967296→Shows rd at' (g9 n ls)→
 fW rd (ls.length+f) n at'=(ls++(fW rd f ((n+ls.length:Nat):Int) (at'+(g9 n ls).length)).1,(fW rd f ((n+ls.length:Nat):Int) (at'+(g9 n ls).length)).2)
 | [],n,at',f,_,_,_=>by simp[g9]
 |b::ls,n,at',f,hl,hn,h=>by
  simp only[g9]at h ⊢;simp only[az]at hn ⊢;have hs:=uG (rd:=rd) (number:=((n+1:Nat):Int)) (at':=at') (by omega) (by omega) (hl b (by simp)) h.left;have ih:=wI (rd:=rd) ls (n+1) (at'+(bk ((n+1:Nat):Int) b).length) f (λx hx=>hl x (by simp[hx])) (by omega) h.right;rw[cy]at ih;rw[show ls.length+1+f=(ls.length+f)+1 by omega,Ar (b:=b) (all:=((bc b.length:Nat):Int)) (by rw[←hs];congr 1)];rw[show((n:Nat):Int)+1=((n+1:Nat):Int)by omega,ih];rw[aj,cy,show n+1+ls.length=n+(ls.length+1)by omega,show at'+((bc b.length+(g9 (n+1) ls).length:Nat):Int)=at'+((bc b.length:Nat):Int)+(((g9 (n+1) ls).length:Nat):Int)by omega];simp
structure LogD(D:DS)(ls:List (List UInt8)):Prop where
 ok:D.Ok
 inn:Wal.DS.In D
 ws:D.ws=[]
 short: ∀b∈ls,b.length≤3000
 room:cz ls≤2048
 shows:Shows D.read 0 (g9 0 ls)
 zero: ∀j,((cz ls:Nat):Int)≤j→D.read j=zs
theorem LogD.len{D:DS}{ls:List (List UInt8)}(h:LogD D ls):ls.length≤2048:=by have:=wt ls;have:=h.room;omega
theorem yU{rd:Int→ix}{number at':Int}(h:(rd at').getD 63 0≠1):fJ rd number at'=none:=qZ (nc h)
theorem zS:zs.getD 63 0≠1:=by decide
theorem LogD.scan{D:DS}{ls:List (List UInt8)}(h:LogD D ls):fW D.read iH 0 0=(ls,((cz ls:Nat):Int)):=by
 have hl:=h.len;obtain⟨f,hf⟩: ∃f,iH=ls.length+f:=⟨iH-ls.length,by rw[qm];omega⟩;have:=wI (rd:=D.read) ls 0 0 f h.short (by omega) h.shows;rw[←hf]at this;rw[show((0:Nat):Int)=0 from rfl]at this;have hz:=h.zero _ (Int.le_refl _);simp only[cz]at hz;rw[this,Int.zero_add,qK (yU (by rw[hz];exact zS))];simp[cz]
theorem LogD.new:LogD DS.new []:=⟨DS.new_ok,⟨QA,QA⟩,rfl,λ_ h=>absurd h (by simp),by decide,λj h=>absurd h (by simp[g9]),λj _=>rfl⟩
theorem LogD.open{D:DS}{ls:List (List UInt8)}(h:LogD D ls)(ha:D.ar=false)(hd:D.dn=false): ∃D',bI D=⟨0,ls,((cz ls:Nat):Int),D'⟩∧LogD D' ls∧D'.ar=false∧D'.dn=false:=by
 obtain⟨D',e,c,hw,hr⟩:=Hc (D:=D) ⟨h.ok,h.inn,ha,hd⟩;rw[h.scan]at e hr
 have hrd: ∀j,D'.read j=D.read j:=λj=>by
  rw[hr j];split
  · rename_i q;rw[h.zero j q.1]
  · rfl
 exact⟨D',e,⟨c.ok,c.inn,hw,h.short,h.room,λj hj=>by rw[hrd];exact h.shows j hj,λj hj=>by rw[hrd];exact h.zero j hj⟩,c.ar,c.dn⟩
def pD:Int→List ix→fH
 |_,[]=>[]
 |at',s::ss=>(at',s)::pD (at'+1) ss
theorem vT: ∀(ss:List ix) (at':Int),(pD at' ss).length=ss.length
 | [],_=>rfl
 |s::ss,at'=>by simp[pD,vT ss]
theorem sx: ∀(ss:List ix) (at':Int) (k:Nat) (h:k<ss.length),kF (pD at' ss) k=(at'+k,ss[k])
 |s::ss,at',0,_=>by simp[pD,kF]
 |s::ss,at',k+1,h=>by
  have ih:=sx ss (at'+1) k (by simpa using h);simp only[kF,pD,List.getD_cons_succ]at ih ⊢;rw[ih];simp only[Qz,Prod.mk.injEq,and_true];omega
theorem G6{s:ix}(h:s.length=64):eV s=s:=by simp[eV,h]
theorem uB: ∀(ss:List ix) (at':Int) (D:DS),D.Ok→Wal.DS.In D→D.dn=false→0≤at'→at'+ss.length≤2048→(∀s∈ss,s.length=64)→
 ∃(m:Nat) (D':DS),m≤ss.length∧fQ ss at' D=((if m=ss.length then 0 else 4),D')∧D'.Ok∧Wal.DS.In D'∧D'.s=D.s∧D'.ws=D.ws++pD at' (ss.take m)∧D'.dn=decide (m<ss.length)∧D'.ar=D.ar∧(D.ar=false→m=ss.length)
 | [],at',D,h,hi,hd,_,_,_=>⟨0,D,aM _,rfl,h,hi,rfl,by simp[pD],by simp[hd],rfl,λ_=>rfl⟩
 |s::ss,at',D,h,hi,hd,h0,h1,hs=>by
  simp only[az]at h1;have hs1:=hs s (by simp)
  by_cases hc:D.ar=true∧D.lf=0
  · have hw:=rj (D:=D) (at':=at') (bs:=s) (by omega) (by omega) hc
    refine⟨0,{D with dn:=true},aP _,?_,⟨h.s,h.ws,h.lf⟩,hi,rfl,by simp[pD],by simp,rfl,λq=>by rw[q]at hc;cases hc.1⟩;rw[fQ,hw];simp
  · have h4:D.ar=false∨0<D.lf:=by
     have:=h.lf;cases q:D.ar
     · exact .inl rfl
     · right
       have:D.lf≠0:=λe=>hc ⟨q,e⟩
       omega
    have hw:=oM (D:=D) (at':=at') (bs:=s) (by omega) (by omega) hd h4;obtain⟨m,D',a1,a2,a3,a4,a5,a6,a7,a8,a9⟩:=uB ss (at'+1) (yb D at' s) (vG h (by omega) h4) (vH hi (by omega)) rfl (by omega) (by omega) (λx hx=>hs x (by simp[hx]));refine⟨m+1,D',by simp;omega,?_,a3,a4,a5.trans rfl,?_,by rw[a7];simp,a8.trans rfl,λq=>by rw[a9 q];rfl⟩
    · rw[fQ,hw]
      simp only[if_true,a2,az,Nat.add_right_cancel_iff]
    · rw[a6]
      simp only[yb,List.take_succ_cons,pD,G6 hs1,aV,gf,bu]
theorem Shows.append{rd:Int→ix}{at':Int}{a b:List ix}(h:Shows rd at' a)(g:Shows rd (at'+a.length) b):Shows rd at' (a++b):=λj hj=>by
 by_cases q:j<a.length
 · rw[P8 q];exact h j q
 · rw[OU (by omega),←g (j-a.length) (by rw[aj]at hj;omega)]
   congr 1;omega
theorem y6(s:fH)(l:List ix)(at' j:Int): ∀k,k≤l.length→iU s (pD at' l) j k=if at'≤j∧j<at'+k then l.getD (j-at').toNat zs else gG s j
 |0,_=>by rw[if_neg (by omega)];rfl
 |k+1,hk=>by
  rw[iU,sx l at' k (by omega),y6 s l at' j k (by omega)]
  by_cases q:at'+k=j
  · rw[if_pos q,if_pos (by omega),show(j-at').toNat=k by omega]
    simp[List.getD_eq_getElem?_getD,show k<l.length by omega]
  · rw[if_neg q]
    by_cases q2:at'≤j∧j<at'+k
    · rw[if_pos q2,if_pos (by omega)]
    · rw[if_neg q2,if_neg (by omega)]
structure Half(D:DS)(ls:List (List UInt8))(bs:List UInt8):Prop where
 ok:D.Ok
 inn:Wal.DS.In D
 short: ∀b∈ls,b.length≤3000
 short':bs.length≤3000
 room:cz ls+bc bs.length≤2048
 shows:Shows (gG D.s) 0 (g9 0 ls)
 zero: ∀j,((cz ls:Nat):Int)≤j→gG D.s j=zs
 ws: ∃m,m≤bc bs.length∧D.ws=pD ((cz ls:Nat):Int) ((bk ((ls.length+1:Nat):Int) bs).take m)
theorem LogD.rds{D:DS}{ls:List (List UInt8)}(h:LogD D ls)(j:Int):D.read j=gG D.s j:=by rw[DS.read,h.ws];rfl
theorem IC{D:DS}{ls:List (List UInt8)}{bs:List UInt8}(h:LogD D ls)(hd:D.dn=false)(hb:bs.length≤3000):
 (2048<cz ls+bc bs.length∧ln D ls.length ((cz ls:Nat):Int) bs=⟨3,ls.length,((cz ls:Nat):Int),D⟩)∨
 (cz ls+bc bs.length≤2048∧∃D',ln D ls.length ((cz ls:Nat):Int) bs=⟨0,ls.length+1,((cz (ls++[bs]):Nat):Int),D'⟩∧LogD D' (ls++[bs])∧D'.dn=false∧D'.ar=D.ar)∨
 (D.ar=true∧∃D',ln D ls.length ((cz ls:Nat):Int) bs=⟨4,ls.length,((cz ls:Nat):Int),D'⟩∧Half D' ls bs):=by
 have hl:=h.len;have hp:=o6 hb
 by_cases hr:2048<cz ls+bc bs.length
 · exact .inl ⟨hr,Co (by omega) (by omega)⟩
 · right
   have hss:(bk ((ls.length+1:Nat):Int) bs).length=bc bs.length:=cy _ _;obtain⟨m,D',a1,a2,a3,a4,a5,a6,a7,a8,a9⟩:=uB (bk ((ls.length+1:Nat):Int) bs) ((cz ls:Nat):Int) D h.ok h.inn hd (by omega) (by rw[hss];omega) (mD _ _);rw[hss]at a1 a2 a7 a9;rw[h.ws,bu]at a6
   by_cases hm:m=bc bs.length
   · left
     subst hm;rw[if_pos rfl]at a2;have hdn:D'.dn=false:=by rw[a7];simp
     obtain⟨s1,s2,s3,s4,s5⟩:=mS hdn;rw[aD (by rw[hss];exact aM _)]at a6
     have hrd: ∀j,D'.sync.2.read j=if((cz ls:Nat):Int)≤j∧j< ((cz ls:Nat):Int)+bc bs.length then(bk ((ls.length+1:Nat):Int) bs).getD (j- ((cz ls:Nat):Int)).toNat zs else D.read j:=λj=>by
      rw[tU hdn,DS.read,a6,vT,y6 _ _ _ _ _ (aM _),hss,a5,h.rds]
     have hsz:=tV ls bs;refine⟨by omega,D'.sync.2,?_,⟨OC a3,vD a4,s2,λb hb'=>?_,by omega,?_,λj hj=>?_⟩,s3,s4.trans a8⟩
     · rw[put_ok (by omega) (by omega) a2 s1,hsz]
       simp only[PutR.mk.injEq,true_and,and_true];omega
     · rcases bA.1 hb' with hb'|hb'
       · exact h.short b hb'
       · simp only[aX]at hb';subst hb';exact hb
     · rw[mK]
       refine Shows.append (λj hj=>?_) λj hj=>?_
       · rw[hrd,if_neg (by simp only[cz];omega)];exact h.shows j hj
       · simp only[g9,aU,bm]at hj ⊢
         rw[hrd,if_pos (by simp only[cz];rw[hss]at hj;omega),show(0+(((g9 0 ls).length:Nat):Int)+(j:Int)- ((cz ls:Nat):Int)).toNat=j by simp only[cz];omega];rw[List.getD_eq_getElem?_getD,List.getElem?_eq_getElem hj];rfl
     · rw[hrd,if_neg (by omega)]
       exact h.zero j (by omega)
   · right
     have har:D.ar=true:=by
      cases q:D.ar
      · exact absurd (a9 q) hm
      · rfl
     rw[if_neg hm]at a2;refine⟨har,D',zc (by omega) (by omega) a2 (by decide),⟨a3,a4,h.short,hb,by omega,λj hj=>?_,λj hj=>?_,m,a1,a6⟩⟩
     · rw[a5,←h.rds];exact h.shows j hj
     · rw[a5,←h.rds];exact h.zero j hj
theorem LogD.crash{D:DS}{ls:List (List UInt8)}(h:LogD D ls)(mask torn n:Int):LogD (D.crash mask torn n) ls∧(D.crash mask torn n).ar=false∧(D.crash mask torn n).dn=false:=by
 have hs:(D.crash mask torn n).s=D.s:=by simp only[DS.crash,h.ws];rfl
 have hr: ∀j,(D.crash mask torn n).read j=D.read j:=λj=>by rw[h.rds];show gG (D.crash mask torn n).s j=_;rw[hs]
 have c:=OF h.ok h.inn mask torn n;exact⟨⟨c.ok,c.inn,rfl,h.short,h.room,λj hj=>by rw[hr];exact h.shows j hj,λj hj=>by rw[hr];exact h.zero j hj⟩,rfl,rfl⟩
theorem rS(mask torn:Int)(c:Nat)(s:fH)(l:List ix)(at' j:Int): ∀k,k≤l.length→gG (gU mask torn c s (pD at' l) k) j=gG s j∨∃(i:Nat) (h:i<l.length),j=at'+i∧(gG (gU mask torn c s (pD at' l) k) j=l[i]∨gG (gU mask torn c s (pD at' l) k) j=lv (gG s j) l[i] c)
 |0,_=> .inl rfl
 |k+1,hk=>by
  have ih:=rS mask torn c s l at' j k (by omega);simp only[gU,jR,sx l at' k (show k<l.length by omega)]
  by_cases q:j=at'+k
  · have ih2:gG (gU mask torn c s (pD at' l) k) (at'+k)=gG s j:=by
     subst q
     have: ∀m,m≤k→gG (gU mask torn c s (pD at' l) m) (at'+k)=gG s (at'+k):=by
      intro m
      induction m with
      |zero=>intro _;rfl
      |succ m ihm=>
       intro hm;simp only[gU,jR,sx l at' m (show m<l.length by omega)];split
       · rw[kY,if_neg (by omega)];exact ihm (by omega)
       · split
         · rw[kY,if_neg (by omega)];exact ihm (by omega)
         · exact ihm (by omega)
     exact this k (aM _)
    split
    · right
      refine⟨k,by omega,q, .inr ?_⟩;rw[kY,if_pos q,ih2]
    · split
      · right
        refine⟨k,by omega,q, .inl ?_⟩;rw[kY,if_pos q]
      · exact ih
  · split
    · rw[kY,if_neg q];exact ih
    · split
      · rw[kY,if_neg q];exact ih
      · exact ih
theorem Ii{new:ix}{c:Nat}(hn:new.length=64)(hc:c≤64):lv zs new c=new∨(lv zs new c).getD 63 0≠1:=by
 by_cases h:c=64
 · left;subst h
   simp only[lv];rw[aD (by omega),cq (by decide),aU]
 · right
   simp only[lv,List.getD_eq_getElem?_getD];rw[List.getElem?_append_right (by rw[bp];omega),bp,Nat.min_eq_left (by omega),List.getElem?_drop,show c+(63-c)=63 by omega];decide
def Oy(rd:Int→ix)(ls:List (List UInt8))(bs:List UInt8):Prop:=∀j,((cz ls:Nat):Int)≤j→rd j=zs∨(∃(i:Nat) (h:i< (bk ((ls.length+1:Nat):Int) bs).length),j=((cz ls:Nat):Int)+i∧rd j=(bk ((ls.length+1:Nat):Int) bs)[i])∨(rd j).getD 63 0≠1
theorem Half.crash{D:DS}{ls:List (List UInt8)}{bs:List UInt8}(h:Half D ls bs)(mask torn n:Int):Calm (D.crash mask torn n)∧Shows (D.crash mask torn n).read 0 (g9 0 ls)∧Oy (D.crash mask torn n).read ls bs:=by
 obtain⟨m,hm,hws⟩:=h.ws;have hss:(bk ((ls.length+1:Nat):Int) bs).length=bc bs.length:=cy _ _
 have hr: ∀j,(D.crash mask torn n).read j=gG (gU mask torn (mO n) D.s (pD ((cz ls:Nat):Int) ((bk ((ls.length+1:Nat):Int) bs).take m)) ((bk ((ls.length+1:Nat):Int) bs).take m).length) j:=λj=>by
  show gG (gU mask torn (mO n) D.s D.ws D.ws.length) j=_;rw[hws,vT]
 refine⟨OF h.ok h.inn _ _ _,λj hj=>?_,λj hj=>?_⟩
 · rw[hr]
   rcases rS mask torn (mO n) D.s ((bk ((ls.length+1:Nat):Int) bs).take m) ((cz ls:Nat):Int) (0+j) _ (aM _)with e| ⟨i,hi,e,_⟩
   · rw[e];exact h.shows j hj
   · simp only[cz]at e;omega
 · rw[hr]
   rcases rS mask torn (mO n) D.s ((bk ((ls.length+1:Nat):Int) bs).take m) ((cz ls:Nat):Int) j _ (aM _)with e| ⟨i,hi,e,e2|e2⟩
   · left;rw[e];exact h.zero j hj
   · right;left
     refine⟨i,by rw[bp]at hi;omega,e,?_⟩;rw[e2,List.getElem_take]
   · right
     rw[h.zero j hj,List.getElem_take]at e2;have hi2:i< (bk ((ls.length+1:Nat):Int) bs).length:=by rw[bp]at hi;omega
     rcases Ii (new:=(bk ((ls.length+1:Nat):Int) bs)[i]) (c:=mO n) (mD _ _ _ (eg _)) (mN n)with q|q
     · left;exact⟨i,hi2,e,by rw[e2,q]⟩
     · right;rw[e2];exact q
end Wal
end

section
namespace Go.Proofs.YtmcjhkbcmmddgaaGreat
open Go Leg Codec Api
theorem DZ(wb b off cap:Nat)(v:Value)(bs:List UInt8)(l:List Int)(cs:List Value)(T:TypeId)(z:Nat×Nat)(hlen:bs.length+10*l.length≤140737488355328)(hb: ∀j,j<l.length→cs[off+j]?=some (.int .i64 (l.getD j 0))):
 DT 148 #[(.pointer (some ⟨wb,0,none⟩)),(.slice (some ⟨b,off,none⟩) (l.length) (cap))] (λF=>F b=some (.cells cs.toArray T z)) [an wb [v] 219,dV v (bs) 5] (qA 219 5 wb (bs++bb l)):=by
 refine BD 45 Tryz.func148 rfl rfl rfl λw0 F hF=>sr λ_ J1=>PS ?_
 refine nx J1 (aa λ_ J2=>sr λ_ J3=>PS ?_);refine tp (tE rfl kE rfl) ?_;refine PS ?_;refine nx J3 (av ?_)
 refine bG (α:=(Nat)×(Value)×(List UInt8)) (λ⟨k,u,laid⟩=>k≤l.length∧laid++bb (l.drop k)=bs++bb l) (λ⟨k,u,laid⟩=>[(0,(.pointer (some ⟨wb,0,none⟩))),(4,(.pointer none)),(8,(.slice (some ⟨b,off,none⟩) (l.length) (cap))),(9,(.int .i64 (((l.length:Nat):Int)))),(10,(.int .i64 ((k:Nat))))]) (λ⟨k,u,laid⟩=>[an wb [u] 219,dV u (laid) 5]) (λ⟨k,u,laid⟩=>l.length-k) (0,v,bs)
  ⟨by omega,rfl⟩ SB
  (λ_ s=>s) (λ⟨k,u,laid⟩ hinv=>?_)
 obtain⟨hk,hL⟩:=hinv;refine sr λ_ J4=>PS ?_
 refine aq ?_ ?_<;>intro h11;refine nx J4 (aa λ_ J5=>CY (qx J5 (aa λ_ J6=>av (sr λ_ J7=>tp (jW (r:=off+k) rfl kE aQ rfl rfl (by first|omega|decide) (by first|omega|decide) (by omega)) ?_))));refine tp (fY (v:=(.int .i64 ((l.getD k 0)))) rfl Y3 rfl rfl (Rd.ro hF) (hb k (by omega))) ?_;refine PS ?_;refine nx J7 (sr λ_ J8=>PS ?_);refine tp (eN (r:=((((l.getD k 0%18446744073709551616).toNat:Nat)):Int)) rfl Y3 Tryz.underlying231 rfl (zU _)) ?_;refine PS ?_;refine nx J8 (aa λ_ J9=>av ?_)
 refine bG (α:=(Nat)×(Value)×(List UInt8)) (λ⟨m,u2,laid2⟩=>laid2++(ut m++bb (l.drop (k+1)))=bs++bb l) (λ⟨m,u2,laid2⟩=>[(0,(.pointer (some ⟨wb,0,none⟩))),(4,(.pointer none)),(7,(.int .u64 ((m:Nat)))),(8,(.slice (some ⟨b,off,none⟩) (l.length) (cap))),(9,(.int .i64 (((l.length:Nat):Int)))),(10,(.int .i64 ((k:Nat))))]) (λ⟨m,u2,laid2⟩=>[an wb [u2] 219,dV u2 (laid2) 5]) (λ⟨m,u2,laid2⟩=>m) ((l.getD k 0%18446744073709551616).toNat,u,laid)
  (by rw[←hL,HB (l:=l) (k:=k) (by omega)];rfl) SB
  (λ_ s=>s) (λ⟨m,u2,laid2⟩ hinv=>?_)
 have hM:=hinv;refine aa λ_ J10=>sr λ_ J11=>P2 ?_
 refine aq ?_ ?_<;>intro h17;refine nx J11 (CY (qx J10 (av (sr λ_ J12=>P3 ?_))));refine FA 0 JI n4 ?_;refine LA 0 ia ?_;refine PS ?_;refine tp (eN (r:=(IntKind.u8.wrap ((m:Nat):Int))) rfl Tryz.underlying231 Y5 rfl rfl) ?_;refine tp (JM (r:=(((UInt8.ofNat (m%128+128)).toNat:Nat):Int)) rfl rfl rfl (Nj m)) ?_;refine aZ (cells:=#[(.int .u8 ((((UInt8.ofNat (m%128+128)).toNat:Nat):Int)))]) (ab rfl) rfl rfl rfl ia zv rfl rfl rfl (by as_aux_lemma=>kernel_rfl) (λb26=>cM (k:=2) (news:=eS ([(UInt8.ofNat (m%128+128))])) (nn':=(laid2++[(UInt8.ofNat (m%128+128))]:List UInt8).length) (xs':=eS (laid2++[(UInt8.ofNat (m%128+128))])) (ab rfl) rfl rfl rfl ia zv rfl rfl rfl rfl rfl rfl (λ_ _=>jU rfl (RO 0) rfl) (fy [(UInt8.ofNat (m%128+128))]) (by have:=congrArg List.length hM;have:=aY l;have:=qp m;simp only[aj,maxLen]at*;omega) (by have:=congrArg List.length hM;have:=aY l;have:=qp m;simp only[aj]at*;omega) (by simp) (js _ _).symm (λv27 ov27=>PS ?_));refine FA 0 JI n4 ?_;refine cd (i:=1) (ab rfl) rfl rfl rfl rfl ov27 n4 rfl rfl (lb rfl) rfl rfl (nx J12 (ag (PS ?_)));refine tp (l7 (r:=((m / 128:Nat):Int)) rfl rfl rfl (by omega) (O5 m)) ?_;refine PS ?_;refine ax (ah ?_)
 exact aN ((m / 128,v27,laid2++[(UInt8.ofNat (m%128+128))]):(Nat)×(Value)×(List UInt8)) (by rw[←hM,pi (by omega)];simp) (by show m / 128<m;omega)
  SB
  (λ_ s=>ao [1,1] rfl s)
 refine nx J11 (CN (bg (aC (aC (bD (af J9 (ag (P3 ?_))))))));refine FA 0 JI n4 ?_;refine LA 0 ia ?_;refine PS ?_;refine tp (eN (r:=(((UInt8.ofNat m).toNat:Nat):Int)) rfl Tryz.underlying231 Y5 rfl (K6 (by omega))) ?_;refine aZ (cells:=#[(.int .u8 ((((UInt8.ofNat m).toNat:Nat):Int)))]) (ab rfl) rfl rfl rfl ia zv rfl rfl rfl (by as_aux_lemma=>kernel_rfl) (λb39=>cM (k:=2) (news:=eS ([(UInt8.ofNat m)])) (nn':=(laid2++[(UInt8.ofNat m)]:List UInt8).length) (xs':=eS (laid2++[(UInt8.ofNat m)])) (ab rfl) rfl rfl rfl ia zv rfl rfl rfl rfl rfl rfl (λ_ _=>jU rfl (RO 0) rfl) (fy [(UInt8.ofNat m)]) (by have:=congrArg List.length hM;have:=aY l;have:=qp m;simp only[aj,maxLen]at*;omega) (by have:=congrArg List.length hM;have:=aY l;have:=qp m;simp only[aj]at*;omega) (by simp) (js _ _).symm (λv40 ov40=>PS ?_));refine FA 0 JI n4 ?_;refine cd (i:=1) (ab rfl) rfl rfl rfl rfl ov40 n4 rfl rfl (lb rfl) rfl rfl (ax (ah (af J6 (ag (AD ?_)))));refine PS ?_;refine ax ?_
 exact aN ((k+1,v40,laid2++[(UInt8.ofNat m)]):(Nat)×(Value)×(List UInt8)) ⟨by omega,by rw[←hM,nR (by omega)];simp⟩ (by show _-_<_-_;omega)
  SB
  (λ_ s=>ao [1,1] rfl s)
 refine nx J4 (aa λ_ J13=>CN (bg (aC (aC (bD (af J2 (sr λ_ J14=>P2 ?_)))))));refine nx J14 (ak (WK [0,0] (aw rfl rfl ?_)));obtain rfl:laid=bs++bb l:=by rw[←hL,fw (by omega)];simp[bb]
 exact⟨u,rfl,rfl⟩
theorem H6(wb:Nat)(v:Value)(bs:List UInt8):
 DT 148 #[(.pointer (some ⟨wb,0,none⟩)),(.slice none 0 0)] T0 [an wb [v] 219,dV v (bs) 5] (qA 219 5 wb (bs++bb [])):=by
 refine BD 45 Tryz.func148 rfl rfl rfl λw0 F hF=>sr λ_ J1=>PS ?_
 refine nx J1 (aa λ_ J2=>sr λ_ J3=>PS ?_);refine tp (tE rfl kE rfl) ?_;refine PS ?_;refine nx J3 (av ?_)
 refine bG (α:=Unit) (λ_u=>True) (λ_u=>[(0,(.pointer (some ⟨wb,0,none⟩))),(4,(.pointer none)),(8,(.slice none 0 0)),(9,(.int .i64 0)),(10,(.int .i64 0))]) (λ_u=>[an wb [v] 219,dV v (bs) 5]) (λ_u=>0) ()
  trivial SB
  (λ_ s=>s) (λ_u hinv=>?_)
 obtain _:=hinv;refine sr λ_ J4=>PS ?_
 refine nx J4 (aa λ_ J5=>CN (bg (aC (aC (bD (af J2 (sr λ_ J6=>P2 ?_)))))));refine nx J6 (ak (aw rfl rfl ?_));exact⟨v,rfl,by rw[Jl,aU]⟩
theorem dS(wb:Nat)(v:Value)(bs:List UInt8)(x:Value)(l:List Int)(hlen:bs.length+10*l.length≤140737488355328):DT 148 #[(.pointer (some ⟨wb,0,none⟩)),x] (P9 x l) [an wb [v] 219,dV v bs 5] (qA 219 5 wb (bs++bb l)):=by
 refine Leg.Does.of λF hF=>?_
 rcases id hF with⟨rfl,rfl⟩| ⟨b,off,cap,cs,T,z,rfl,h3,h4⟩
 · exact⟨_,trivial,H6 wb v bs⟩
 · exact⟨_,h3,DZ wb b off cap v bs l cs T z hlen h4⟩
theorem eE(wb:Nat)(v:Value)(bs:List UInt8)(hlen:bs.length≤140737488355328):
 DT 153 #[(.pointer (some ⟨wb,0,none⟩))] T0 [an wb [v] 219,dV v (bs) 5] (dL (λx H=>∃u,x=u∧H=[an wb [v] 219,dV v bs 5,dV u bs 5])):=by
 refine Leg.Does.body (vs:=[(.pointer (some ⟨wb,0,none⟩))]) (n:=9) Tryz.func153 rfl rfl rfl (λw0 F hF=>?_);refine sr λ_ J1=>?_
 refine pN ?_;refine nx J1 ?_;refine sr λ_ J2=>?_
 refine DJ (ab rfl) rfl rfl rfl ia lO (λv3=>?_);change TL _ _ _ _ _ _ _ _ _ [dV v3 ([]) 5,an wb [v] 219,dV v (bs) 5];refine mv ?_;refine tp (gJ rfl rfl) ?_;refine tp (bl (r:=0) rfl JI rfl n4 rfl rfl) ?_;refine tp (fY (v:=v) rfl ia rfl rfl (fu 1 rfl rfl) rfl) ?_;refine cM (k:=0) (news:=eS (bs)) (nn':=(bs:List UInt8).length) (xs':=eS (bs)) (ab rfl) rfl rfl rfl ia zv rfl rfl rfl rfl rfl rfl (λ_ s=>Qp 2 rfl rfl s) (fy _) (by simp only[maxLen,az,aB];omega) (by simp only[az,aB];omega) (by simp) (bu _) (λv8 ov8=>?_);change TL _ _ _ _ _ _ _ _ _ [dV v8 (bs) 5,an wb [v] 219,dV v (bs) 5];refine pN ?_;refine nx J2 ?_;refine ak ?_;refine aG (dP _) (λ_ s=>ao [1,1,0] rfl s) ?_;refine aw rfl rfl ?_;exact⟨v8,rfl,rfl⟩
theorem Bo(wb:Nat)(v:Value)(bs:List UInt8)(a0 a1 g0 g1 g2 g3 g4:Int)(hlen:bs.length+70≤140737488355328):
 DT 152 #[(.pointer (some ⟨wb,0,none⟩)),(.agg #[(.int .i64 (a0)),(.int .i64 (a1)),(.int .i64 (g0)),(.int .i64 (g1)),(.int .i64 (g2)),(.int .i64 (g3)),(.int .i64 (g4))])] T0 [an wb [v] 219,dV v (bs) 5] (qA 219 5 wb (bs++bb [a0,a1,g0,g1,g2,g3,g4])):=by
 refine BD 15 Tryz.func152 rfl rfl rfl λw0 F hF=>sr λ_ J1=>XB λb3=>?_
 refine PS ?_;refine nx J1 (aa λ_ J2=>D1 0 bo ?_);refine PD 0 ?_;refine FD 1 0 eL aQ ?_;refine LX 2 Y3 (.int .i64 (a0)) ?_ (hc:=by exact rfl);refine FD 3 1 eL aQ ?_;refine LX 4 Y3 (.int .i64 (a1)) ?_ (hc:=by exact rfl);refine FD 7 2 eL gK ?_;refine ta 8 rfl (qE rfl mX aQ rfl) ?_;refine AL 5 ?_;refine aZ (cells:=#[(.int .i64 (a0)),(.int .i64 (a1))]) (ab rfl) rfl rfl rfl kE rO rfl rfl rfl (by as_aux_lemma=>kernel_rfl) (λb10=>EN (AL 6 ?_));refine CQ ke (dS wb v (bs) (.slice (some ⟨b10,0,none⟩) (2) (2)) [a0,a1] (by simp only[aj,az,aB,aA];first|omega| (have:=aY [a0,a1];simp only[az,aB]at this;omega))) (SM [2,2]) (dI 0 rfl rfl rfl rfl) λvR HR hR=>?_
 obtain⟨u1,rfl,rfl⟩:=hR;refine EN (AL 9 ?_);refine CQ ke (dS wb u1 (bs++bb [a0,a1]) (.slice (some ⟨b3,2,none⟩) (5) (5)) [g0,g1,g2,g3,g4] (by simp only[aj,az,aB,aA];first|omega| (have:=aY [a0,a1];simp only[az,aB]at this;omega))) ID (dI 1 rfl rfl rfl rfl) λvR HR hR=>?_
 obtain⟨u2,rfl,rfl⟩:=hR;refine EN (PD 10 ?_);refine DN (af J2 (ak (WK [0,0] (aw rfl rfl ?_))));exact⟨_,rfl,by rw[aV,←qo];rfl⟩
theorem xT(wb:Nat)(v:Value)(bs:List UInt8)(a0 a1 a2:Int)(hlen:bs.length+30≤140737488355328):
 DT 151 #[(.pointer (some ⟨wb,0,none⟩)),(.agg #[(.int .i64 (a0)),(.int .i64 (a1)),(.int .i64 (a2))])] T0 [an wb [v] 219,dV v (bs) 5] (qA 219 5 wb (bs++bb [a0,a1,a2])):=by
 refine BD 14 Tryz.func151 rfl rfl rfl λw0 F hF=>sr λ_ J1=>XB λb3=>?_
 refine PS ?_;refine nx J1 (sr λ_ J2=>PS ?_);refine FA 0 nt aQ ?_;refine LA 0 Y3 ?_;refine FA 1 nt aQ ?_;refine LA 0 Y3 ?_;refine FA 2 nt aQ ?_;refine LA 0 Y3 ?_;refine aZ (cells:=#[(.int .i64 (a0)),(.int .i64 (a1)),(.int .i64 (a2))]) (ab rfl) rfl rfl rfl kE rO rfl rfl rfl (by as_aux_lemma=>kernel_rfl) (λb12=>CQ ke (dS wb v (bs) (.slice (some ⟨b12,0,none⟩) (3) (3)) [a0,a1,a2] (by simp only[aj,az,aB,aA];first|omega| (have:=aY [a0,a1];simp only[az,aB]at this;omega))) (SM [2,2]) (dI 0 rfl rfl rfl rfl) λvR HR hR=>?_);obtain⟨u1,rfl,rfl⟩:=hR;refine PS ?_;exact nx J2 (ak (WK [0,0] (aw rfl rfl ⟨_,rfl,rfl⟩)))
theorem xU(wb:Nat)(v:Value)(bs:List UInt8)(a0 a1:Int)(hlen:bs.length+20≤140737488355328):
 DT 150 #[(.pointer (some ⟨wb,0,none⟩)),(.agg #[(.int .i64 (a0)),(.int .i64 (a1))])] T0 [an wb [v] 219,dV v (bs) 5] (qA 219 5 wb (bs++bb [a0,a1])):=by
 refine BD 12 Tryz.func150 rfl rfl rfl λw0 F hF=>sr λ_ J1=>XB λb3=>?_
 refine PS ?_;refine nx J1 (sr λ_ J2=>PS ?_);refine FA 0 kB aQ ?_;refine LA 0 Y3 ?_;refine FA 1 kB aQ ?_;refine LA 0 Y3 ?_;refine aZ (cells:=#[(.int .i64 (a0)),(.int .i64 (a1))]) (ab rfl) rfl rfl rfl kE rO rfl rfl rfl (by as_aux_lemma=>kernel_rfl) (λb10=>CQ ke (dS wb v (bs) (.slice (some ⟨b10,0,none⟩) (2) (2)) [a0,a1] (by simp only[aj,az,aB,aA];first|omega| (have:=aY [a0,a1];simp only[az,aB]at this;omega))) (SM [2,2]) (dI 0 rfl rfl rfl rfl) λvR HR hR=>?_);obtain⟨u1,rfl,rfl⟩:=hR;refine PS ?_;exact nx J2 (ak (WK [0,0] (aw rfl rfl ⟨_,rfl,rfl⟩)))
theorem Bv(wb:Nat)(v:Value)(bs:List UInt8)(a0 a1 g0 g1 g2 g3 g4:Int)(hlen:bs.length+70≤140737488355328):
 DT 159 #[(.pointer (some ⟨wb,0,none⟩)),(.agg #[(.int .i64 (a0)),(.int .i64 (a1)),(.int .i64 (g0)),(.int .i64 (g1)),(.int .i64 (g2)),(.int .i64 (g3)),(.int .i64 (g4))])] T0 [an wb [v] 219,dV v (bs) 5] (dL (λx H=>∃v',x= .tuple #[]∧H=[an wb [v'] 219,dV v' (bs++bb [a0,a1,g0,g1,g2,g3,g4]) 5])):=by
 refine BD 14 Tryz.func159 rfl rfl rfl λw0 F hF=>sr λ_ J1=>XB λb3=>?_
 refine nx J1 (D1 0 bo ?_);refine PD 0 ?_;refine FD 1 0 nV aQ ?_;refine LX 2 Y3 (.int .i64 (a0)) ?_ (hc:=by exact rfl);refine FD 3 1 nV aQ ?_;refine LX 4 Y3 (.int .i64 (a1)) ?_ (hc:=by exact rfl);refine FD 7 2 nV gK ?_;refine ta 8 rfl (qE rfl mX aQ rfl) ?_;refine AL 5 ?_;refine aZ (cells:=#[(.int .i64 (a0)),(.int .i64 (a1))]) (ab rfl) rfl rfl rfl kE rO rfl rfl rfl (by as_aux_lemma=>kernel_rfl) (λb9=>EN (AL 6 ?_));refine CQ ke (dS wb v (bs) (.slice (some ⟨b9,0,none⟩) (2) (2)) [a0,a1] (by simp only[aj,az,aB,aA];first|omega| (have:=aY [a0,a1];simp only[az,aB]at this;omega))) (SM [2,2]) (dI 0 rfl rfl rfl rfl) λvR HR hR=>?_
 obtain⟨u1,rfl,rfl⟩:=hR;refine EN (AL 9 ?_);refine CQ ke (dS wb u1 (bs++bb [a0,a1]) (.slice (some ⟨b3,2,none⟩) (5) (5)) [g0,g1,g2,g3,g4] (by simp only[aj,az,aB,aA];first|omega| (have:=aY [a0,a1];simp only[az,aB]at this;omega))) ID (dI 1 rfl rfl rfl rfl) λvR HR hR=>?_
 obtain⟨u2,rfl,rfl⟩:=hR;refine EN (DN (WK [0,0] (bE rfl ?_)));exact⟨_,rfl,by rw[aV,←qo];rfl⟩
theorem vX(wb:Nat)(v:Value)(bs:List UInt8)(c:CellT)(hlen:bs.length+70≤140737488355328):DT 159 #[(.pointer (some ⟨wb,0,none⟩)),c.val] T0 [an wb [v] 219,dV v bs 5] (dL (λx H=>∃v',x= .tuple #[]∧H=[an wb [v'] 219,dV v' (bs++bb c.flat) 5])):=by
 obtain⟨i,o,g⟩:=c;exact M7 (p:=λg=>Leg.Does Tryz.prog 159 #[(.pointer (some ⟨wb,0,none⟩)),CellT.val ⟨i,o,g⟩] (λ_=>True) [an wb [v] 219,dV v bs 5] (dL (λx H=>∃v',x= .tuple #[]∧H=[an wb [v'] 219,dV v' (bs++bb (CellT.flat ⟨i,o,g⟩)) 5]))) (λa b c d e=>Bv wb v bs i o a b c d e hlen) g
theorem ri(wb:Nat)(v:Value)(bs:List UInt8)(x:ViewT)(hlen:bs.length+70≤140737488355328):DT 152 #[(.pointer (some ⟨wb,0,none⟩)),x.val] T0 [an wb [v] 219,dV v bs 5] (qA 219 5 wb (bs++bb x.flat)):=by
 obtain⟨i,o,g⟩:=x;exact M7 (p:=λg=>Leg.Does Tryz.prog 152 #[(.pointer (some ⟨wb,0,none⟩)),ViewT.val ⟨i,o,g⟩] (λ_=>True) [an wb [v] 219,dV v bs 5] (qA 219 5 wb (bs++bb (ViewT.flat ⟨i,o,g⟩)))) (λa b c d e=>Bo wb v bs i o a b c d e hlen) g
theorem oN(wb:Nat)(v:Value)(bs:List UInt8)(x:ChangeT)(hlen:bs.length+30≤140737488355328):DT 151 #[(.pointer (some ⟨wb,0,none⟩)),x.val] T0 [an wb [v] 219,dV v bs 5] (qA 219 5 wb (bs++bb x.flat)):=xT wb v bs x.kind x.who x.heir (by omega)
theorem jK(wb:Nat)(v:Value)(bs:List UInt8)(x:BallotT)(hlen:bs.length+30≤140737488355328):DT 150 #[(.pointer (some ⟨wb,0,none⟩)),x.val] T0 [an wb [v] 219,dV v bs 5] (qA 219 5 wb (bs++bb x.flat)):=xU wb v bs x.round x.who (by omega)
theorem tJ(wb:Nat)(v:Value)(bs:List UInt8)(x:RowT)(hlen:bs.length+2000≤140737488355328):
 DT 149 #[(.pointer (some ⟨wb,0,none⟩)),(.agg (ints x.flat).toArray)] T0 [an wb [v] 219,dV v (bs) 5] (qA 219 5 wb (bs++iS x)):=by
 refine BD 50 Tryz.func149 rfl rfl rfl λw0 F hF=>sr λ_ J1=>XY (ints x.flat) λb3=>?_
 refine PS ?_;refine nx J1 (sr λ_ J2=>PS ?_);refine FA 0 ez aQ ?_;refine LT 0 Y3 (.int .i64 (x.version)) ?_ (hc:=by exact RowT.get_version _);refine aZ (cells:=#[(.int .i64 (x.version))]) (ab rfl) rfl rfl rfl kE rO rfl rfl rfl (by as_aux_lemma=>kernel_rfl) (λb14=>CQ ke (dS wb v (bs) (.slice (some ⟨b14,0,none⟩) (1) (1)) [x.version] (by have:=congrArg List.length (Eq.refl bs);have:=iR x;simp only[aj,az,aB]at*;omega)) (SM [2,2]) (dI 0 rfl rfl rfl rfl) λvR HR hR=>?_);obtain⟨u1,rfl,rfl⟩:=hR;refine nx J2 (aa λ_ J3=>sr λ_ J4=>FA 1 ez lP ?_);refine tp (aL (vs:=ints (bT x.cells.toList)) rfl Bm rfl lP rfl (RO 3) (by rw[ints_length,cW];simp) (RowT.get_cells _)) ?_;refine PS ?_;refine nx J4 (av ?_)
 refine bG (α:=(Nat)×(Value)×(List UInt8)) (λ⟨k,u,laid⟩=>k≤4∧laid++(bb (bT (x.cells.toList.drop k))++gT x 5 0)=bs++iS x) (λ⟨k,u,laid⟩=>[(0,(.pointer (some ⟨wb,0,none⟩))),(3,(.pointer (some ⟨b3,0,none⟩))),(4,(.pointer none)),(17,(.agg (ints (bT x.cells.toList)).toArray)),(18,(.int .i64 ((k:Nat))))]) (λ⟨k,u,laid⟩=>[an b3 (ints x.flat) 51,an wb [u] 219,dV u (laid) 5]) (λ⟨k,u,laid⟩=>4-k) (0,u1,bs++bb [x.version])
  ⟨by omega,by simp[iS,bb]⟩ SB
  (λ_ s=>ao [3,0,0] rfl s) (λ⟨k,u,laid⟩ hinv=>?_)
 obtain⟨hk,hL⟩:=hinv;have hE:=hL;rw[show bb (bT (x.cells.toList.drop k))=bb (bT (x.cells.toList.drop k))from rfl]at hE;refine sr λ_ J5=>PS ?_
 refine aq ?_ ?_<;>intro h19;refine nx J5 (aa λ_ J6=>CY (qx J6 (aa λ_ J7=>av (sr λ_ J8=>tp (Qg (cs:=ints (bT (x.cells.toList))) (r:=k*7) rfl Bm nV rfl gF rfl rfl (by omega) (by omega) (by omega) (zx (by simp;omega))) ?_))));refine XA JT λb6=>?_
 refine bR (vs:=ints ((x.cells.toList)[k]'(by simp;omega)).flat) (cs':=ints ((x.cells.toList)[k]'(by simp;omega)).flat) (i:=0) (ab rfl) rfl rfl rfl rfl rfl (by rw[bH];exact gF) (bB _) rfl rfl (by rw[bH];exact aM _) (jq (by rw[bH];rfl)) rfl (nx J8 (ag (PS ?_)));refine tp (aL (vs:=ints ((x.cells.toList)[k]'(by simp;omega)).flat) rfl nV rfl gF rfl (RO 0) (bH _) (by rw[bq,aD (by rw[bH];decide)])) ?_;refine CR Lm (vX wb u (laid) ((x.cells.toList)[k]'(by simp;omega)) (by have:=congrArg List.length hE;have:=iR x;have:=aY ((x.cells.toList)[k]'(by simp;omega)).flat;rw[bQ]at this;simp only[aj]at*;omega)) (SM [2,2]) λvR HR hR=>?_
 obtain⟨u2,rfl,rfl⟩:=hR;refine ax (ah (af J7 (ag (AD ?_))));refine PS ?_;refine ax ?_
 exact aN ((k+1,u2,laid++bb ((x.cells.toList)[k]'(by simp;omega)).flat):(Nat)×(Value)×(List UInt8)) ⟨by omega,by rw[←hL,pg (l:=x.cells.toList) (k:=k) (by simp;omega)];simp⟩ (by show _-_<_-_;omega)
  SB
  (λ_ s=>ao [3,0,0] rfl s)
 refine nx J5 (aa λ_ J9=>CN (bg (aC (aC (bD (af J3 (aa λ_ J10=>sr λ_ J11=>FA 29 ez gK ?_)))))));refine tp (aL (vs:=ints x.heir.toList) rfl mX rfl gK rfl (RO 0) (by rw[ints_length];simp) (RowT.get_heirs _)) ?_;refine PS ?_;refine nx J11 (av ?_)
 refine bG (α:=(Nat)×(Value)×(List UInt8)) (λ⟨i,u,laid⟩=>i≤5∧laid++gT x (5-i) i=bs++iS x) (λ⟨i,u,laid⟩=>[(0,(.pointer (some ⟨wb,0,none⟩))),(3,(.pointer (some ⟨b3,0,none⟩))),(4,(.pointer none)),(26,(.agg (ints x.heir.toList).toArray)),(27,(.int .i64 ((i:Nat))))]) (λ⟨i,u,laid⟩=>[an b3 (ints x.flat) 51,an wb [u] 219,dV u (laid) 5]) (λ⟨i,u,laid⟩=>5-i) (0,u,laid)
  ⟨by omega,by rw[←hL,fw (by simp;omega)];simp[bT,bb]⟩ SB
  (λ_ s=>ao [0,0,0] rfl s) (λ⟨i,u,laid⟩ hinv=>?_)
 obtain⟨hi,hL⟩:=hinv;have hE:=hL;refine sr λ_ J12=>PS ?_
 refine aq ?_ ?_<;>intro h28;refine nx J12 (aa λ_ J13=>CY (qx J13 (aa λ_ J14=>av (sr λ_ J15=>PS ?_))));refine tp (sj (cs:=ints x.heir.toList) (v:= .int .i64 (x.heir[i]'(by omega))) (r:=i) rfl mX Y3 rfl aQ rfl rfl (by omega) (by omega) (by omega) (by rw[ints_get _ _ (by simp;omega)];simp[List.getD_eq_getElem?_getD,show i<5 by omega])) ?_;refine P2 ?_;refine nx J15 (sr λ_ J16=>P2 ?_);refine aZ (cells:=#[(.int .i64 (x.heir[i]'(by omega)))]) (ab rfl) rfl rfl rfl kE rO rfl rfl rfl (by as_aux_lemma=>kernel_rfl) (λb33=>CQ ke (dS wb u (laid) (.slice (some ⟨b33,0,none⟩) (1) (1)) [x.heir[i]'(by omega)] (by have:=congrArg List.length hE;have:=iR x;simp only[aj,az,aB]at*;omega)) (SM [2,2]) (dI 0 rfl rfl rfl rfl) λvR HR hR=>?_);obtain⟨u2,rfl,rfl⟩:=hR;refine nx J16 (sr λ_ J17=>P2 ?_);refine aq ?_ ?_<;>intro h36;refine nx J17 (CY (sr λ_ J18=>PS ?_));refine FA 34 ez BK ?_;refine IX (34+i*28) L1 lP ?_;refine tp (aL (vs:=ints (bT (x.left[i]'(by omega)).toList)) rfl Bm rfl lP rfl (RO 3) (by rw[ints_length,cW];simp) (RowT.get_left _ i (by omega))) ?_;refine PS ?_;refine nx J18 (av ?_)
 refine bG (α:=(Nat)×(Value)×(List UInt8)) (λ⟨k,u3,laid3⟩=>k≤4∧laid3++(bb (bT ((x.left[i]'(by omega)).toList.drop k))++gT x (5- (i+1)) (i+1))=bs++iS x) (λ⟨k,u3,laid3⟩=>[(0,(.pointer (some ⟨wb,0,none⟩))),(3,(.pointer (some ⟨b3,0,none⟩))),(4,(.pointer none)),(26,(.agg (ints x.heir.toList).toArray)),(27,(.int .i64 ((i:Nat)))),(40,(.agg (ints (bT (x.left[i]'(by omega)).toList)).toArray)),(41,(.int .i64 ((k:Nat))))]) (λ⟨k,u3,laid3⟩=>[an b3 (ints x.flat) 51,an wb [u3] 219,dV u3 (laid3) 5]) (λ⟨k,u3,laid3⟩=>4-k) (0,u2,laid++bb [x.heir[i]'(by omega)])
  ⟨by omega,by rw[←hL,q9 (i:=i) (by omega),if_pos h36];simp[bb]⟩ SB
  (λ_ s=>ao [3,0,0] rfl s) (λ⟨k,u3,laid3⟩ hinv=>?_)
 obtain⟨hk,hM⟩:=hinv;have hE:=hM;refine sr λ_ J19=>PS ?_
 refine aq ?_ ?_<;>intro h42;refine nx J19 (aa λ_ J20=>CY (qx J20 (aa λ_ J21=>av (sr λ_ J22=>tp (Qg (cs:=ints (bT ((x.left[i]'(by omega)).toList))) (r:=k*7) rfl Bm nV rfl gF rfl rfl (by omega) (by omega) (by omega) (zx (by simp;omega))) ?_))));refine XA JT λb10=>?_
 refine bR (vs:=ints (((x.left[i]'(by omega)).toList)[k]'(by simp;omega)).flat) (cs':=ints (((x.left[i]'(by omega)).toList)[k]'(by simp;omega)).flat) (i:=0) (ab rfl) rfl rfl rfl rfl rfl (by rw[bH];exact gF) (bB _) rfl rfl (by rw[bH];exact aM _) (jq (by rw[bH];rfl)) rfl (nx J22 (ag (PS ?_)));refine tp (aL (vs:=ints (((x.left[i]'(by omega)).toList)[k]'(by simp;omega)).flat) rfl nV rfl gF rfl (RO 0) (bH _) (by rw[bq,aD (by rw[bH];decide)])) ?_;refine CR Lm (vX wb u3 (laid3) (((x.left[i]'(by omega)).toList)[k]'(by simp;omega)) (by have:=congrArg List.length hE;have:=iR x;have:=aY (((x.left[i]'(by omega)).toList)[k]'(by simp;omega)).flat;rw[bQ]at this;simp only[aj]at*;omega)) (SM [2,2]) λvR HR hR=>?_
 obtain⟨u3,rfl,rfl⟩:=hR;refine ax (ah (af J21 (ag (AD ?_))));refine PS ?_;refine ax ?_
 exact aN ((k+1,u3,laid3++bb (((x.left[i]'(by omega)).toList)[k]'(by simp;omega)).flat):(Nat)×(Value)×(List UInt8)) ⟨by omega,by rw[←hM,pg (l:=(x.left[i]'(by omega)).toList) (k:=k) (by simp;omega)];simp⟩ (by show _-_<_-_;omega)
  SB
  (λ_ s=>ao [3,0,0] rfl s)
 refine nx J19 (aa λ_ J23=>CN (bg (aC (aC (bD (ah (af J14 (ag (AD ?_)))))))));refine PS ?_;refine ax ?_
 exact aN ((i+1,u3,laid3):(Nat)×(Value)×(List UInt8)) ⟨by omega,by rw[←hM,fw (by simp;omega)];simp[bT,bb]⟩ (by show _-_<_-_;omega)
  SB
  (λ_ s=>ao [0,0,0] rfl s)
 refine nx J17 (CN (aT (ah (af J14 (ag (AD ?_))))));refine PS ?_;refine ax ?_
 exact aN ((i+1,u2,laid++bb [x.heir[i]'(by omega)]):(Nat)×(Value)×(List UInt8)) ⟨by omega,by rw[←hL,q9 (i:=i) (by omega),if_neg h36];simp[bb]⟩ (by show _-_<_-_;omega)
  SB
  (λ_ s=>ao [3,0,0] rfl s)
 refine nx J12 (aa λ_ J24=>CN (bg (aC (aC (bD (af J10 (sr λ_ J25=>P2 ?_)))))));refine nx J25 (ak (WK [1,1] (aw rfl rfl ?_)));obtain rfl:laid=bs++iS x:=by rw[←hL,show 5-i=0 by omega];simp[gT]
 exact⟨u,rfl,rfl⟩
theorem C9(m:MsgT):
 DT 182 #[(.agg (ints m.flat).toArray)] T0 [] (dL (λr' H=>∃u,r'=u∧H=[dV u (bS m) 5])):=by
 refine BD 100 Tryz.func182 rfl rfl rfl λw0 F hF=>sr λ_ J1=>XY (ints m.flat) λb1=>?_
 refine PS ?_;refine nx J1 (sr λ_ J2=>XA M4 λb4=>?_);refine TL.ownNil 5 (λon=>?_);clear on;refine PS ?_;refine nx J2 (aa λ_ J3=>sr λ_ J4=>FA 0 bi aQ ?_);refine LU 2 Y3 (fa m rfl) ?_;refine nx J4 (av (aa λ_ J5=>fo (α:=Unit) (λ_u=>True) (λ_u=>[(1,(.pointer (some ⟨b1,0,none⟩))),(2,(.slice none 0 0)),(3,(.pointer (some ⟨b4,0,none⟩))),(6,(.int .i64 (m.kind))),(7,(.bool ((eA m.kind))))]) (λ_u=>[dV (.slice none 0 0) ([]) 5,an b4 [(.slice none 0 0)] 219,an b1 (ints m.flat) 136]) (λ_u hinv=>?_) (λtl5=>?_)));have _:=hinv;refine af J5 (TC.cond rfl (λh7=>?_) (λh7=>?_));refine D1 2 bo ?_;refine PD 0 ?_;refine FD 1 0 bi aQ ?_;refine LR 2 Y3 (fa m rfl) ?_;refine FD 3 1 bi aQ ?_;refine LR 4 Y3 (cu m rfl) ?_;refine FD 7 2 bi bj ?_;refine ta 8 rfl (aL (vs:=ints m.row.flat) rfl ez rfl bj rfl (λ_ h=>h.2.1) (am m.row) (mo m 0 rfl (by decide) (bn (am m.row)))) ?_;refine AL 5 ?_;refine aZ (cells:=#[(.int .i64 (m.kind)),(.int .i64 (m.whose))]) (ab rfl) rfl rfl rfl kE rO rfl rfl rfl (by as_aux_lemma=>kernel_rfl) (λb16=>EN (AL 6 ?_));refine CQ ke (dS b4 (.slice none 0 0) ([]) (.slice (some ⟨b16,0,none⟩) (2) (2)) [m.kind,m.whose] (by simp)) (SM [2,1]) (dI 0 rfl rfl rfl rfl) λvR HR hR=>?_
 obtain⟨u1,rfl,rfl⟩:=hR;refine EN (AL 9 ?_);refine CR IT (tJ b4 u1 (bb [m.kind,m.whose]) m.row (by(have:=aY [m.kind,m.whose]);simp only[BallotT.flat,ViewT.flat,ChangeT.flat,az,aB,aA,aj]at*;omega)) ID λvR HR hR=>?_
 obtain⟨u2,rfl,rfl⟩:=hR;refine EN (DN (ah (af J3 (sr λ_ J6=>PS ?_))));refine CR ng (eE b4 u2 (bb [m.kind,m.whose]++iS m.row) (by(have:=aY [m.kind,m.whose]);(have:=iR m.row);simp only[BallotT.flat,ViewT.flat,ChangeT.flat,az,aB,aA,aj]at*;omega)) ID λvR HR hR=>?_
 obtain⟨_,rfl,rfl⟩:=hR;revert vR;intro u3;refine PS ?_;refine nx J6 (ak (WK [2] (aw rfl rfl ?_)));exact⟨_,rfl,congrArg (λb=>[dV u3 b 5]) (show(bb [m.kind,m.whose]++iS m.row)=bS m by simp[bS,bb, *])⟩;refine sr λ_ J7=>PS ?_
 refine aq ?_ ?_<;>intro h22;refine PS ?_;refine nx J7 (CY (ag (PS ?_)));refine FA 0 bi aQ ?_;refine LU 2 Y3 (fa m rfl) ?_;refine FA 176 bi aQ ?_;refine LU 2 Y3 (MsgT.at_version m rfl) ?_;refine aZ (cells:=#[(.int .i64 (m.kind)),(.int .i64 (m.version))]) (ab rfl) rfl rfl rfl kE rO rfl rfl rfl (by as_aux_lemma=>kernel_rfl) (λb28=>CQ ke (dS b4 (.slice none 0 0) ([]) (.slice (some ⟨b28,0,none⟩) (2) (2)) [m.kind,m.version] (by simp)) (SM [2,1]) (dI 0 rfl rfl rfl rfl) λvR HR hR=>?_);obtain⟨u1,rfl,rfl⟩:=hR;refine ax (ah (af J3 (sr λ_ J8=>PS ?_)));refine CR ng (eE b4 u1 (bb [m.kind,m.version]) (by(have:=aY [m.kind,m.version]);simp only[BallotT.flat,ViewT.flat,ChangeT.flat,az,aB,aA,aj]at*;omega)) ID λvR HR hR=>?_
 obtain⟨_,rfl,rfl⟩:=hR;revert vR;intro u2;refine PS ?_;refine nx J8 (ak (WK [2] (aw rfl rfl ?_)));exact⟨_,rfl,congrArg (λb=>[dV u2 b 5]) (show(bb [m.kind,m.version])=bS m by simp[bS,eA,fe,bb, *])⟩;refine PS ?_;refine nx J7 (CN (aa λ_ J9=>fo (α:=Unit) (λ_u=>True) (λ_u=>[(1,(.pointer (some ⟨b1,0,none⟩))),(2,(.slice none 0 0)),(3,(.pointer (some ⟨b4,0,none⟩))),(6,(.int .i64 (m.kind))),(30,(.bool ((fe m.kind))))]) (λ_u=>[dV (.slice none 0 0) ([]) 5,an b4 [(.slice none 0 0)] 219,an b1 (ints m.flat) 136]) (λ_u hinv=>?_) (λtl9=>?_)));have _:=hinv;refine af J9 (TC.cond rfl (λh30=>?_) (λh30=>?_));refine D1 2 bo ?_;refine PD 0 ?_;refine FD 1 0 bi aQ ?_;refine LR 2 Y3 (fa m rfl) ?_;refine FD 3 177 bi aQ ?_;refine LR 4 Y3 (eZ m rfl) ?_;refine FD 7 178 bi cA ?_;refine ta 8 rfl (aL (vs:=ints m.ballot.flat) rfl kB rfl cA rfl (λ_ h=>h.2.1) (ap m.ballot) (jp m 0 rfl (by decide) (bn (ap m.ballot)))) ?_;refine AL 5 ?_;refine aZ (cells:=#[(.int .i64 (m.kind)),(.int .i64 (m.epoch))]) (ab rfl) rfl rfl rfl kE rO rfl rfl rfl (by as_aux_lemma=>kernel_rfl) (λb38=>EN (AL 6 ?_));refine CQ ke (dS b4 (.slice none 0 0) ([]) (.slice (some ⟨b38,0,none⟩) (2) (2)) [m.kind,m.epoch] (by simp)) (SM [2,1]) (dI 0 rfl rfl rfl rfl) λvR HR hR=>?_
 obtain⟨u1,rfl,rfl⟩:=hR;refine EN (AL 9 ?_);refine CR zi (jK b4 u1 (bb [m.kind,m.epoch]) m.ballot (by(have:=aY [m.kind,m.epoch]);simp only[BallotT.flat,ViewT.flat,ChangeT.flat,az,aB,aA,aj]at*;omega)) ID λvR HR hR=>?_
 obtain⟨u2,rfl,rfl⟩:=hR;refine EN (DN (ah (af J3 (sr λ_ J10=>PS ?_))));refine CR ng (eE b4 u2 (bb [m.kind,m.epoch]++bb m.ballot.flat) (by(have:=aY [m.kind,m.epoch]);(have:=aY (m.ballot.flat));simp only[BallotT.flat,ViewT.flat,ChangeT.flat,az,aB,aA,aj]at*;omega)) ID λvR HR hR=>?_
 obtain⟨_,rfl,rfl⟩:=hR;revert vR;intro u3;refine PS ?_;refine nx J10 (ak (WK [2] (aw rfl rfl ?_)));exact⟨_,rfl,congrArg (λb=>[dV u3 b 5]) (show(bb [m.kind,m.epoch]++bb m.ballot.flat)=bS m by simp[bS,bb, *])⟩;refine sr λ_ J11=>PS ?_
 refine aq ?_ ?_<;>intro h44;refine PS ?_;refine nx J11 (CY (D1 2 bo ?_));refine PD 0 ?_;refine FD 1 0 bi aQ ?_;refine LR 2 Y3 (fa m rfl) ?_;refine FD 3 177 bi aQ ?_;refine LR 4 Y3 (eZ m rfl) ?_;refine FD 7 178 bi cA ?_;refine ta 8 rfl (aL (vs:=ints m.ballot.flat) rfl kB rfl cA rfl (λ_ h=>h.2.1) (ap m.ballot) (jp m 0 rfl (by decide) (bn (ap m.ballot)))) ?_;refine FD 10 180 bi cA ?_;refine ta 11 rfl (aL (vs:=ints m.had.flat) rfl kB rfl cA rfl (λ_ h=>h.2.1) (ap m.had) (Qx m 0 rfl (by decide) (bn (ap m.had)))) ?_;refine FD 13 182 bi fR ?_;refine ta 14 rfl (aL (vs:=ints m.change.flat) rfl nt rfl fR rfl (λ_ h=>h.2.1) (aK m.change) (nB m 0 rfl (by decide) (bn (aK m.change)))) ?_;refine AL 5 ?_;refine aZ (cells:=#[(.int .i64 (m.kind)),(.int .i64 (m.epoch))]) (ab rfl) rfl rfl rfl kE rO rfl rfl rfl (by as_aux_lemma=>kernel_rfl) (λb50=>EN (AL 6 ?_));refine CQ ke (dS b4 (.slice none 0 0) ([]) (.slice (some ⟨b50,0,none⟩) (2) (2)) [m.kind,m.epoch] (by simp)) (SM [2,1]) (dI 0 rfl rfl rfl rfl) λvR HR hR=>?_
 obtain⟨u1,rfl,rfl⟩:=hR;refine EN (AL 9 ?_);refine CR zi (jK b4 u1 (bb [m.kind,m.epoch]) m.ballot (by(have:=aY [m.kind,m.epoch]);simp only[BallotT.flat,ViewT.flat,ChangeT.flat,az,aB,aA,aj]at*;omega)) ID λvR HR hR=>?_
 obtain⟨u2,rfl,rfl⟩:=hR;refine EN (AL 12 ?_);refine CR zi (jK b4 u2 (bb [m.kind,m.epoch]++bb m.ballot.flat) m.had (by(have:=aY [m.kind,m.epoch]);(have:=aY (m.ballot.flat));simp only[BallotT.flat,ViewT.flat,ChangeT.flat,az,aB,aA,aj]at*;omega)) ID λvR HR hR=>?_
 obtain⟨u3,rfl,rfl⟩:=hR;refine EN (AL 15 ?_);refine CR IR (oN b4 u3 (bb [m.kind,m.epoch]++bb m.ballot.flat++bb m.had.flat) m.change (by(have:=aY [m.kind,m.epoch]);(have:=aY (m.ballot.flat));(have:=aY (m.had.flat));simp only[BallotT.flat,ViewT.flat,ChangeT.flat,az,aB,aA,aj]at*;omega)) ID λvR HR hR=>?_
 obtain⟨u4,rfl,rfl⟩:=hR;refine EN (DN (ah (af J3 (sr λ_ J12=>PS ?_))));refine CR ng (eE b4 u4 (bb [m.kind,m.epoch]++bb m.ballot.flat++bb m.had.flat++bb m.change.flat) (by(have:=aY [m.kind,m.epoch]);(have:=aY (m.ballot.flat));(have:=aY (m.had.flat));(have:=aY (m.change.flat));simp only[BallotT.flat,ViewT.flat,ChangeT.flat,az,aB,aA,aj]at*;omega)) ID λvR HR hR=>?_
 obtain⟨_,rfl,rfl⟩:=hR;revert vR;intro u5;refine PS ?_;refine nx J12 (ak (WK [2] (aw rfl rfl ?_)));exact⟨_,rfl,congrArg (λb=>[dV u5 b 5]) (show(bb [m.kind,m.epoch]++bb m.ballot.flat++bb m.had.flat++bb m.change.flat)=bS m by simp[bS,eA,fe,bb, *])⟩;refine PS ?_;refine nx J11 (CN (sr λ_ J13=>PS ?_));refine aq ?_ ?_<;>intro h62;refine PS ?_;refine nx J13 (CY (D1 2 bo ?_));refine PD 0 ?_;refine FD 1 0 bi aQ ?_;refine LR 2 Y3 (fa m rfl) ?_;refine FD 3 177 bi aQ ?_;refine LR 4 Y3 (eZ m rfl) ?_;refine FD 7 178 bi cA ?_;refine ta 8 rfl (aL (vs:=ints m.ballot.flat) rfl kB rfl cA rfl (λ_ h=>h.2.1) (ap m.ballot) (jp m 0 rfl (by decide) (bn (ap m.ballot)))) ?_;refine FD 10 182 bi fR ?_;refine ta 11 rfl (aL (vs:=ints m.change.flat) rfl nt rfl fR rfl (λ_ h=>h.2.1) (aK m.change) (nB m 0 rfl (by decide) (bn (aK m.change)))) ?_;refine AL 5 ?_;refine aZ (cells:=#[(.int .i64 (m.kind)),(.int .i64 (m.epoch))]) (ab rfl) rfl rfl rfl kE rO rfl rfl rfl (by as_aux_lemma=>kernel_rfl) (λb68=>EN (AL 6 ?_));refine CQ ke (dS b4 (.slice none 0 0) ([]) (.slice (some ⟨b68,0,none⟩) (2) (2)) [m.kind,m.epoch] (by simp)) (SM [2,1]) (dI 0 rfl rfl rfl rfl) λvR HR hR=>?_
 obtain⟨u1,rfl,rfl⟩:=hR;refine EN (AL 9 ?_);refine CR zi (jK b4 u1 (bb [m.kind,m.epoch]) m.ballot (by(have:=aY [m.kind,m.epoch]);simp only[BallotT.flat,ViewT.flat,ChangeT.flat,az,aB,aA,aj]at*;omega)) ID λvR HR hR=>?_
 obtain⟨u2,rfl,rfl⟩:=hR;refine EN (AL 12 ?_);refine CR IR (oN b4 u2 (bb [m.kind,m.epoch]++bb m.ballot.flat) m.change (by(have:=aY [m.kind,m.epoch]);(have:=aY (m.ballot.flat));simp only[BallotT.flat,ViewT.flat,ChangeT.flat,az,aB,aA,aj]at*;omega)) ID λvR HR hR=>?_
 obtain⟨u3,rfl,rfl⟩:=hR;refine EN (DN (ah (af J3 (sr λ_ J14=>PS ?_))));refine CR ng (eE b4 u3 (bb [m.kind,m.epoch]++bb m.ballot.flat++bb m.change.flat) (by(have:=aY [m.kind,m.epoch]);(have:=aY (m.ballot.flat));(have:=aY (m.change.flat));simp only[BallotT.flat,ViewT.flat,ChangeT.flat,az,aB,aA,aj]at*;omega)) ID λvR HR hR=>?_
 obtain⟨_,rfl,rfl⟩:=hR;revert vR;intro u4;refine PS ?_;refine nx J14 (ak (WK [2] (aw rfl rfl ?_)));exact⟨_,rfl,congrArg (λb=>[dV u4 b 5]) (show(bb [m.kind,m.epoch]++bb m.ballot.flat++bb m.change.flat)=bS m by simp[bS,eA,fe,bb, *])⟩;refine PS ?_;refine nx J13 (CN (sr λ_ J15=>PS ?_));refine aq ?_ ?_<;>intro h77;refine PS ?_;refine nx J15 (CY (D1 2 bo ?_));refine PD 0 ?_;refine FD 1 0 bi aQ ?_;refine LR 2 Y3 (fa m rfl) ?_;refine FD 5 185 bi be ?_;refine ta 6 rfl (aL (vs:=ints m.view.flat) rfl eL rfl be rfl (λ_ h=>h.2.1) (ai m.view) (vB m 0 rfl (by decide) (bn (ai m.view)))) ?_;refine AL 3 ?_;refine aZ (cells:=#[(.int .i64 (m.kind))]) (ab rfl) rfl rfl rfl kE rO rfl rfl rfl (by as_aux_lemma=>kernel_rfl) (λb81=>EN (AL 4 ?_));refine CQ ke (dS b4 (.slice none 0 0) ([]) (.slice (some ⟨b81,0,none⟩) (1) (1)) [m.kind] (by simp)) (SM [2,1]) (dI 0 rfl rfl rfl rfl) λvR HR hR=>?_
 obtain⟨u1,rfl,rfl⟩:=hR;refine EN (AL 7 ?_);refine CR IQ (ri b4 u1 (bb [m.kind]) m.view (by(have:=aY [m.kind]);simp only[BallotT.flat,ViewT.flat,ChangeT.flat,az,aB,aA,aj]at*;omega)) ID λvR HR hR=>?_
 obtain⟨u2,rfl,rfl⟩:=hR;refine EN (DN (ah (af J3 (sr λ_ J16=>PS ?_))));refine CR ng (eE b4 u2 (bb [m.kind]++bb m.view.flat) (by(have:=aY [m.kind]);(have:=aY (m.view.flat));simp only[BallotT.flat,ViewT.flat,ChangeT.flat,az,aB,aA,aj]at*;omega)) ID λvR HR hR=>?_
 obtain⟨_,rfl,rfl⟩:=hR;revert vR;intro u3;refine PS ?_;refine nx J16 (ak (WK [2] (aw rfl rfl ?_)));exact⟨_,rfl,congrArg (λb=>[dV u3 b 5]) (show(bb [m.kind]++bb m.view.flat)=bS m by simp[bS,eA,fe,bb, *])⟩;refine PS ?_;refine nx J15 (CN (sr λ_ J17=>PS ?_));refine aq ?_ ?_<;>intro h87;refine PS ?_;refine nx J17 (CY (D1 2 bo ?_));refine PD 0 ?_;refine FD 1 0 bi aQ ?_;refine LR 2 Y3 (fa m rfl) ?_;refine FD 3 1 bi aQ ?_;refine LR 4 Y3 (cu m rfl) ?_;refine FD 7 185 bi be ?_;refine ta 8 rfl (aL (vs:=ints m.view.flat) rfl eL rfl be rfl (λ_ h=>h.2.1) (ai m.view) (vB m 0 rfl (by decide) (bn (ai m.view)))) ?_;refine AL 5 ?_;refine aZ (cells:=#[(.int .i64 (m.kind)),(.int .i64 (m.whose))]) (ab rfl) rfl rfl rfl kE rO rfl rfl rfl (by as_aux_lemma=>kernel_rfl) (λb93=>EN (AL 6 ?_));refine CQ ke (dS b4 (.slice none 0 0) ([]) (.slice (some ⟨b93,0,none⟩) (2) (2)) [m.kind,m.whose] (by simp)) (SM [2,1]) (dI 0 rfl rfl rfl rfl) λvR HR hR=>?_
 obtain⟨u1,rfl,rfl⟩:=hR;refine EN (AL 9 ?_);refine CR IQ (ri b4 u1 (bb [m.kind,m.whose]) m.view (by(have:=aY [m.kind,m.whose]);simp only[BallotT.flat,ViewT.flat,ChangeT.flat,az,aB,aA,aj]at*;omega)) ID λvR HR hR=>?_
 obtain⟨u2,rfl,rfl⟩:=hR;refine EN (DN (ah (af J3 (sr λ_ J18=>PS ?_))));refine CR ng (eE b4 u2 (bb [m.kind,m.whose]++bb m.view.flat) (by(have:=aY [m.kind,m.whose]);(have:=aY (m.view.flat));simp only[BallotT.flat,ViewT.flat,ChangeT.flat,az,aB,aA,aj]at*;omega)) ID λvR HR hR=>?_
 obtain⟨_,rfl,rfl⟩:=hR;revert vR;intro u3;refine PS ?_;refine nx J18 (ak (WK [2] (aw rfl rfl ?_)));exact⟨_,rfl,congrArg (λb=>[dV u3 b 5]) (show(bb [m.kind,m.whose]++bb m.view.flat)=bS m by simp[bS,eA,fe,bb, *])⟩;refine PS ?_;refine nx J17 (CN (aT (ah (af J3 (sr λ_ J19=>PS ?_)))));refine CR ng (eE b4 (.slice none 0 0) ([]) (by simp)) (SM [1,0]) λvR HR hR=>?_
 obtain⟨_,rfl,rfl⟩:=hR;revert vR;intro u1;refine PS ?_;refine nx J19 (ak (WK [2] (aw rfl rfl ?_)));exact⟨_,rfl,congrArg (λb=>[dV u1 b 5]) (show([]:List UInt8)=bS m by simp[bS,bb, *])⟩;refine sr λ_ J20=>P2 ?_
 refine aq ?_ ?_<;>intro h30;refine nx J20 (CY (aT ?_))
 exact aG
  (aW (aW (aW (aW (bJ rfl (by simp[fe, *]) SB)))))
  (λ_ s=>s)
  (tl9 (():Unit) trivial)
 refine nx J20 (CN (ag (PS ?_)));refine aq ?_ ?_<;>intro h32;refine PS ?_;refine ax ?_
 exact aG
  (aW (aW (aW (aW (bJ rfl (by simp[fe, *]) SB)))))
  (λ_ s=>s)
  (tl9 (():Unit) trivial)
 refine PS ?_;refine ax ?_
 exact aG
  (aW (aW (aW (aW (bJ rfl (by simp[fe, *]) SB)))))
  (λ_ s=>s)
  (tl9 (():Unit) trivial)
 refine sr λ_ J21=>P2 ?_
 refine aq ?_ ?_<;>intro h7;refine nx J21 (CY (aT ?_))
 exact aG
  (aW (aW (aW (aW (bJ rfl (by simp[eA, *]) SB)))))
  (λ_ s=>s)
  (tl5 (():Unit) trivial)
 refine nx J21 (CN (sr λ_ J22=>P2 ?_));refine aq ?_ ?_<;>intro h7;refine nx J22 (CY (aT ?_))
 exact aG
  (aW (aW (aW (aW (bJ rfl (by simp[eA, *]) SB)))))
  (λ_ s=>s)
  (tl5 (():Unit) trivial)
 refine nx J22 (CN (ag (PS ?_)));refine aq ?_ ?_<;>intro h10;refine PS ?_;refine ax ?_
 exact aG
  (aW (aW (aW (aW (bJ rfl (by simp[eA, *]) SB)))))
  (λ_ s=>s)
  (tl5 (():Unit) trivial)
 refine PS ?_;refine ax ?_
 exact aG
  (aW (aW (aW (aW (bJ rfl (by simp[eA, *]) SB)))))
  (λ_ s=>s)
  (tl5 (():Unit) trivial)
theorem Ci(m:RecT):
 DT 132 #[(.agg (ints m.flat).toArray)] T0 [] (dL (λr' H=>∃u,r'=u∧H=[dV u (dZ m) 5])):=by
 refine BD 77 Tryz.func132 rfl rfl rfl λw0 F hF=>sr λ_ J1=>XY (ints m.flat) λb1=>?_
 refine PS ?_;refine nx J1 (sr λ_ J2=>XA M4 λb4=>?_);refine TL.ownNil 5 (λon=>?_);clear on;refine PS ?_;refine nx J2 (aa λ_ J3=>sr λ_ J4=>FA 0 eC aQ ?_);refine LU 2 Y3 (kQ m rfl) ?_;refine nx J4 (av (sr λ_ J5=>PS ?_));refine aq ?_ ?_<;>intro h8;refine PS ?_;refine nx J5 (CY (D1 2 bo ?_));refine PD 0 ?_;refine FD 1 0 eC aQ ?_;refine LR 2 Y3 (kQ m rfl) ?_;refine FD 5 2 eC bj ?_;refine ta 6 rfl (aL (vs:=ints m.row.flat) rfl ez rfl bj rfl (λ_ h=>h.2.1) (am m.row) (se m 0 rfl (by decide) (bn (am m.row)))) ?_;refine AL 3 ?_;refine aZ (cells:=#[(.int .i64 (m.kind))]) (ab rfl) rfl rfl rfl kE rO rfl rfl rfl (by as_aux_lemma=>kernel_rfl) (λb12=>EN (AL 4 ?_));refine CQ ke (dS b4 (.slice none 0 0) ([]) (.slice (some ⟨b12,0,none⟩) (1) (1)) [m.kind] (by simp)) (SM [2,1]) (dI 0 rfl rfl rfl rfl) λvR HR hR=>?_
 obtain⟨u1,rfl,rfl⟩:=hR;refine EN (AL 7 ?_);refine CR IT (tJ b4 u1 (bb [m.kind]) m.row (by(have:=aY [m.kind]);simp only[BallotT.flat,ViewT.flat,ChangeT.flat,az,aB,aA,aj]at*;omega)) ID λvR HR hR=>?_
 obtain⟨u2,rfl,rfl⟩:=hR;refine EN (DN (ah (af J3 (sr λ_ J6=>PS ?_))));refine CR ng (eE b4 u2 (bb [m.kind]++iS m.row) (by(have:=aY [m.kind]);(have:=iR m.row);simp only[BallotT.flat,ViewT.flat,ChangeT.flat,az,aB,aA,aj]at*;omega)) ID λvR HR hR=>?_
 obtain⟨_,rfl,rfl⟩:=hR;revert vR;intro u3;refine PS ?_;refine nx J6 (ak (WK [2] (aw rfl rfl ?_)));exact⟨_,rfl,congrArg (λb=>[dV u3 b 5]) (show(bb [m.kind]++iS m.row)=dZ m by simp[dZ,eA,fe,bb, *])⟩;refine PS ?_;refine nx J5 (CN (sr λ_ J7=>PS ?_));refine aq ?_ ?_<;>intro h18;refine PS ?_;refine nx J7 (CY (D1 2 bo ?_));refine PD 0 ?_;refine FD 1 0 eC aQ ?_;refine LR 2 Y3 (kQ m rfl) ?_;refine FD 3 1 eC aQ ?_;refine LR 4 Y3 (Gm m rfl) ?_;refine FD 7 2 eC bj ?_;refine ta 8 rfl (aL (vs:=ints m.row.flat) rfl ez rfl bj rfl (λ_ h=>h.2.1) (am m.row) (se m 0 rfl (by decide) (bn (am m.row)))) ?_;refine AL 5 ?_;refine aZ (cells:=#[(.int .i64 (m.kind)),(.int .i64 (m.whose))]) (ab rfl) rfl rfl rfl kE rO rfl rfl rfl (by as_aux_lemma=>kernel_rfl) (λb24=>EN (AL 6 ?_));refine CQ ke (dS b4 (.slice none 0 0) ([]) (.slice (some ⟨b24,0,none⟩) (2) (2)) [m.kind,m.whose] (by simp)) (SM [2,1]) (dI 0 rfl rfl rfl rfl) λvR HR hR=>?_
 obtain⟨u1,rfl,rfl⟩:=hR;refine EN (AL 9 ?_);refine CR IT (tJ b4 u1 (bb [m.kind,m.whose]) m.row (by(have:=aY [m.kind,m.whose]);simp only[BallotT.flat,ViewT.flat,ChangeT.flat,az,aB,aA,aj]at*;omega)) ID λvR HR hR=>?_
 obtain⟨u2,rfl,rfl⟩:=hR;refine EN (DN (ah (af J3 (sr λ_ J8=>PS ?_))));refine CR ng (eE b4 u2 (bb [m.kind,m.whose]++iS m.row) (by(have:=aY [m.kind,m.whose]);(have:=iR m.row);simp only[BallotT.flat,ViewT.flat,ChangeT.flat,az,aB,aA,aj]at*;omega)) ID λvR HR hR=>?_
 obtain⟨_,rfl,rfl⟩:=hR;revert vR;intro u3;refine PS ?_;refine nx J8 (ak (WK [2] (aw rfl rfl ?_)));exact⟨_,rfl,congrArg (λb=>[dV u3 b 5]) (show(bb [m.kind,m.whose]++iS m.row)=dZ m by simp[dZ,eA,fe,bb, *])⟩;refine PS ?_;refine nx J7 (CN (sr λ_ J9=>PS ?_));refine aq ?_ ?_<;>intro h30;refine PS ?_;refine nx J9 (CY (ag (PS ?_)));refine FA 0 eC aQ ?_;refine LU 2 Y3 (kQ m rfl) ?_;refine FA 1 eC aQ ?_;refine LU 2 Y3 (Gm m rfl) ?_;refine aZ (cells:=#[(.int .i64 (m.kind)),(.int .i64 (m.whose))]) (ab rfl) rfl rfl rfl kE rO rfl rfl rfl (by as_aux_lemma=>kernel_rfl) (λb36=>CQ ke (dS b4 (.slice none 0 0) ([]) (.slice (some ⟨b36,0,none⟩) (2) (2)) [m.kind,m.whose] (by simp)) (SM [2,1]) (dI 0 rfl rfl rfl rfl) λvR HR hR=>?_);obtain⟨u1,rfl,rfl⟩:=hR;refine ax (ah (af J3 (sr λ_ J10=>PS ?_)));refine CR ng (eE b4 u1 (bb [m.kind,m.whose]) (by(have:=aY [m.kind,m.whose]);simp only[BallotT.flat,ViewT.flat,ChangeT.flat,az,aB,aA,aj]at*;omega)) ID λvR HR hR=>?_
 obtain⟨_,rfl,rfl⟩:=hR;revert vR;intro u2;refine PS ?_;refine nx J10 (ak (WK [2] (aw rfl rfl ?_)));exact⟨_,rfl,congrArg (λb=>[dV u2 b 5]) (show(bb [m.kind,m.whose])=dZ m by simp[dZ,eA,fe,bb, *])⟩;refine PS ?_;refine nx J9 (CN (sr λ_ J11=>PS ?_));refine aq ?_ ?_<;>intro h39;refine PS ?_;refine nx J11 (CY (D1 2 bo ?_));refine PD 0 ?_;refine FD 1 0 eC aQ ?_;refine LR 2 Y3 (kQ m rfl) ?_;refine FD 3 176 eC aQ ?_;refine LR 4 Y3 (RecT.at_epoch m rfl) ?_;refine FD 7 177 eC cA ?_;refine ta 8 rfl (aL (vs:=ints m.ballot.flat) rfl kB rfl cA rfl (λ_ h=>h.2.1) (ap m.ballot) (qW m 0 rfl (by decide) (bn (ap m.ballot)))) ?_;refine AL 5 ?_;refine aZ (cells:=#[(.int .i64 (m.kind)),(.int .i64 (m.epoch))]) (ab rfl) rfl rfl rfl kE rO rfl rfl rfl (by as_aux_lemma=>kernel_rfl) (λb45=>EN (AL 6 ?_));refine CQ ke (dS b4 (.slice none 0 0) ([]) (.slice (some ⟨b45,0,none⟩) (2) (2)) [m.kind,m.epoch] (by simp)) (SM [2,1]) (dI 0 rfl rfl rfl rfl) λvR HR hR=>?_
 obtain⟨u1,rfl,rfl⟩:=hR;refine EN (AL 9 ?_);refine CR zi (jK b4 u1 (bb [m.kind,m.epoch]) m.ballot (by(have:=aY [m.kind,m.epoch]);simp only[BallotT.flat,ViewT.flat,ChangeT.flat,az,aB,aA,aj]at*;omega)) ID λvR HR hR=>?_
 obtain⟨u2,rfl,rfl⟩:=hR;refine EN (DN (ah (af J3 (sr λ_ J12=>PS ?_))));refine CR ng (eE b4 u2 (bb [m.kind,m.epoch]++bb m.ballot.flat) (by(have:=aY [m.kind,m.epoch]);(have:=aY (m.ballot.flat));simp only[BallotT.flat,ViewT.flat,ChangeT.flat,az,aB,aA,aj]at*;omega)) ID λvR HR hR=>?_
 obtain⟨_,rfl,rfl⟩:=hR;revert vR;intro u3;refine PS ?_;refine nx J12 (ak (WK [2] (aw rfl rfl ?_)));exact⟨_,rfl,congrArg (λb=>[dV u3 b 5]) (show(bb [m.kind,m.epoch]++bb m.ballot.flat)=dZ m by simp[dZ,eA,fe,bb, *])⟩;refine PS ?_;refine nx J11 (CN (sr λ_ J13=>PS ?_));refine aq ?_ ?_<;>intro h51;refine PS ?_;refine nx J13 (CY (D1 2 bo ?_));refine PD 0 ?_;refine FD 1 0 eC aQ ?_;refine LR 2 Y3 (kQ m rfl) ?_;refine FD 3 176 eC aQ ?_;refine LR 4 Y3 (RecT.at_epoch m rfl) ?_;refine FD 7 177 eC cA ?_;refine ta 8 rfl (aL (vs:=ints m.ballot.flat) rfl kB rfl cA rfl (λ_ h=>h.2.1) (ap m.ballot) (qW m 0 rfl (by decide) (bn (ap m.ballot)))) ?_;refine FD 10 179 eC fR ?_;refine ta 11 rfl (aL (vs:=ints m.change.flat) rfl nt rfl fR rfl (λ_ h=>h.2.1) (aK m.change) (MR m 0 rfl (by decide) (bn (aK m.change)))) ?_;refine AL 5 ?_;refine aZ (cells:=#[(.int .i64 (m.kind)),(.int .i64 (m.epoch))]) (ab rfl) rfl rfl rfl kE rO rfl rfl rfl (by as_aux_lemma=>kernel_rfl) (λb57=>EN (AL 6 ?_));refine CQ ke (dS b4 (.slice none 0 0) ([]) (.slice (some ⟨b57,0,none⟩) (2) (2)) [m.kind,m.epoch] (by simp)) (SM [2,1]) (dI 0 rfl rfl rfl rfl) λvR HR hR=>?_
 obtain⟨u1,rfl,rfl⟩:=hR;refine EN (AL 9 ?_);refine CR zi (jK b4 u1 (bb [m.kind,m.epoch]) m.ballot (by(have:=aY [m.kind,m.epoch]);simp only[BallotT.flat,ViewT.flat,ChangeT.flat,az,aB,aA,aj]at*;omega)) ID λvR HR hR=>?_
 obtain⟨u2,rfl,rfl⟩:=hR;refine EN (AL 12 ?_);refine CR IR (oN b4 u2 (bb [m.kind,m.epoch]++bb m.ballot.flat) m.change (by(have:=aY [m.kind,m.epoch]);(have:=aY (m.ballot.flat));simp only[BallotT.flat,ViewT.flat,ChangeT.flat,az,aB,aA,aj]at*;omega)) ID λvR HR hR=>?_
 obtain⟨u3,rfl,rfl⟩:=hR;refine EN (DN (ah (af J3 (sr λ_ J14=>PS ?_))));refine CR ng (eE b4 u3 (bb [m.kind,m.epoch]++bb m.ballot.flat++bb m.change.flat) (by(have:=aY [m.kind,m.epoch]);(have:=aY (m.ballot.flat));(have:=aY (m.change.flat));simp only[BallotT.flat,ViewT.flat,ChangeT.flat,az,aB,aA,aj]at*;omega)) ID λvR HR hR=>?_
 obtain⟨_,rfl,rfl⟩:=hR;revert vR;intro u4;refine PS ?_;refine nx J14 (ak (WK [2] (aw rfl rfl ?_)));exact⟨_,rfl,congrArg (λb=>[dV u4 b 5]) (show(bb [m.kind,m.epoch]++bb m.ballot.flat++bb m.change.flat)=dZ m by simp[dZ,eA,fe,bb, *])⟩;refine PS ?_;refine nx J13 (CN (sr λ_ J15=>PS ?_));refine aq ?_ ?_<;>intro h66;refine PS ?_;refine nx J15 (CY (D1 2 bo ?_));refine PD 0 ?_;refine FD 1 0 eC aQ ?_;refine LR 2 Y3 (kQ m rfl) ?_;refine FD 5 182 eC be ?_;refine ta 6 rfl (aL (vs:=ints m.view.flat) rfl eL rfl be rfl (λ_ h=>h.2.1) (ai m.view) (P6 m 0 rfl (by decide) (bn (ai m.view)))) ?_;refine AL 3 ?_;refine aZ (cells:=#[(.int .i64 (m.kind))]) (ab rfl) rfl rfl rfl kE rO rfl rfl rfl (by as_aux_lemma=>kernel_rfl) (λb70=>EN (AL 4 ?_));refine CQ ke (dS b4 (.slice none 0 0) ([]) (.slice (some ⟨b70,0,none⟩) (1) (1)) [m.kind] (by simp)) (SM [2,1]) (dI 0 rfl rfl rfl rfl) λvR HR hR=>?_
 obtain⟨u1,rfl,rfl⟩:=hR;refine EN (AL 7 ?_);refine CR IQ (ri b4 u1 (bb [m.kind]) m.view (by(have:=aY [m.kind]);simp only[BallotT.flat,ViewT.flat,ChangeT.flat,az,aB,aA,aj]at*;omega)) ID λvR HR hR=>?_
 obtain⟨u2,rfl,rfl⟩:=hR;refine EN (DN (ah (af J3 (sr λ_ J16=>PS ?_))));refine CR ng (eE b4 u2 (bb [m.kind]++bb m.view.flat) (by(have:=aY [m.kind]);(have:=aY (m.view.flat));simp only[BallotT.flat,ViewT.flat,ChangeT.flat,az,aB,aA,aj]at*;omega)) ID λvR HR hR=>?_
 obtain⟨_,rfl,rfl⟩:=hR;revert vR;intro u3;refine PS ?_;refine nx J16 (ak (WK [2] (aw rfl rfl ?_)));exact⟨_,rfl,congrArg (λb=>[dV u3 b 5]) (show(bb [m.kind]++bb m.view.flat)=dZ m by simp[dZ,eA,fe,bb, *])⟩;refine PS ?_;refine nx J15 (CN (aT (ah (af J3 (sr λ_ J17=>PS ?_)))));refine CR ng (eE b4 (.slice none 0 0) ([]) (by simp)) (SM [1,0]) λvR HR hR=>?_
 obtain⟨_,rfl,rfl⟩:=hR;revert vR;intro u1;refine PS ?_;refine nx J17 (ak (WK [2] (aw rfl rfl ?_)));exact⟨_,rfl,congrArg (λb=>[dV u1 b 5]) (show([]:List UInt8)=dZ m by simp[dZ,eA,fe,bb, *])⟩
open Dsk Wal
theorem qI(who:Int)(hm:cw who=true):DT 15 #[.int .i64 who] T0 [] (dL (λr' H=>∃u,r'=u∧H=[own u 2 [.int .i64 ((who+1)%5), .int .i64 ((who+2)%5)] 3 1])):=by
 have:=pW who;rw[show iy who=[(who+1)%5,(who+2)%5]by rw[iy,if_pos hm]]at this;exact this
theorem Ep(r:Nat)(x:RepT)(op err val:Int)(rs:List ReplyT)(hrs:rs.length≤1000000):
 DT 54 #[(.pointer (some ⟨r,0,none⟩)),(.int .i64 (op)),(.int .i64 (err)),(.int .i64 (val))] T0 [an r (RepT.cells x) 94,own x.replies ((rs).length) (ints (List.flatMap ReplyT.flat (rs))) 175 3] (dL (λ_ H=>∃v',v'.oneCell'=true∧H=[an r (RepT.cells {x with replies:=v'}) 94,own v' (rs++[ReplyT.mk op err val]).length (ints (List.flatMap ReplyT.flat (rs++[ReplyT.mk op err val]))) 175 3])):=by
 refine BD 21 Tryz.func54 rfl rfl rfl λw0 F hF=>ag (P3 ?_)
 refine FA 1942 db xZ ?_;refine LT 0 JX x.replies ?_ (hc:=by exact RepT.at_replies x rfl);refine P3 ?_;refine tp (yC (cs:=ints (ReplyT.mk op err val).flat) (segs:=[[Value.int .i64 0],[Value.int .i64 0],[Value.int .i64 0]]) (res:=[[Value.int .i64 op],[Value.int .i64 err],[Value.int .i64 val]]) (parts:=[(0,[Value.int .i64 op]),(1,[Value.int .i64 err]),(2,[Value.int .i64 val])]) rfl rfl Tryz.underlying175 (by kernel_rfl) (by kernel_rfl) rfl (fA rfl rfl (fA rfl rfl (fA rfl rfl lS))) (ReplyT.eq (ReplyT.mk op err val)).symm) ?_;refine aZ (cells:=(ints (ReplyT.mk op err val).flat).toArray) (ab rfl) rfl rfl rfl JX zw rfl rfl rfl (mL (ReplyT.len (ReplyT.mk op err val)) (by simp)) (λb17=>?_);change TL _ _ _ _ _ _ _ _ _ [an b17 (ints (ReplyT.mk op err val).flat) 175,an r (RepT.cells x) 94,own x.replies ((rs).length) (ints (List.flatMap ReplyT.flat (rs))) 175 3];refine cM (k:=2) (news:=ints (ReplyT.mk op err val).flat) (nn':=(rs++[ReplyT.mk op err val]).length) (xs':=ints (List.flatMap ReplyT.flat (rs++[ReplyT.mk op err val]))) (ab rfl) rfl rfl rfl JX zw rfl rfl rfl rfl rfl rfl (λ_ _=>jU (ReplyT.len _) (RO 0) (by rw[bq,ko])) (bB _) (by simp only[maxLen];omega) (by omega) (by simp) (by simp[ints]) (λv18 ov18=>PS ?_);refine FA 1942 db xZ ?_;exact cd (i:=1) (ab rfl) rfl rfl rfl rfl ov18 xZ rfl rfl (LB (cU _)) (RepT.set_replies x rfl _) rfl (ax (WK [1,1] (bE rfl ⟨_,ov18,rfl⟩)))
theorem Cm(r:Nat)(x:RepT)(key:Int):
 DT 20 #[(.pointer (some ⟨r,0,none⟩)),(.int .i64 (key))] T0 [an r (RepT.cells x) 94] (RI (.int .i64 (mW x.book key)) [an r (RepT.cells x) 94]):=by
 refine BD 10 Tryz.func20 rfl rfl rfl λw0 F hF=>sr λ_ J1=>PS ?_
 refine nx J1 (sr λ_ J2=>P2 ?_);refine FA 1068 db BI ?_;refine PS ?_;refine CE Nz (qu r 1068 94 (λu=>RepT.cells {x with book:=u}) (gC x) x.book key) ID ?_;refine PS ?_;exact nx J2 (ak (WK [0] (aw rfl rfl ⟨rfl,rfl⟩)))
theorem Eu(r:Nat)(x:RepT):
 DT 11 #[(.pointer (some ⟨r,0,none⟩))] T0 [an r (RepT.cells x) 94] (RI (.agg (ints x.view.flat).toArray) [an r (RepT.cells x) 94]):=by
 refine BD 7 Tryz.func11 rfl rfl rfl λw0 F hF=>sr λ_ J1=>XZ pM (ints ViewT.zero.flat) λb2=>?_
 refine nx J1 (sr λ_ J2=>P2 ?_);refine FA 2 db be ?_;refine LV 1 eL be ai cT (y:=x.view) ?_;refine SW 0 be ai ?_;refine nx J2 (ak (RC 0 [1] eL be (ai _) ?_));exact⟨rfl,rfl⟩
theorem Av(r:Nat)(x:RepT)(rs:List ReplyT)(hrs:rs.length≤1000000):
 DT 72 #[(.pointer (some ⟨r,0,none⟩))] T0 [an r (RepT.cells x) 94,own x.replies ((rs).length) (ints (List.flatMap ReplyT.flat (rs))) 175 3] (dL (λr' H=>∃u,r'=u∧H=[an r (RepT.cells x) 94,own x.replies rs.length (ints (List.flatMap ReplyT.flat rs)) 175 3,own u rs.length (ints (List.flatMap ReplyT.flat rs)) 175 3])):=by
 refine BD 8 Tryz.func72 rfl rfl rfl λw0 F hF=>sr λ_ J1=>Oo 175 3 (λ_=>PS ?_)
 refine nx J1 (sr λ_ J2=>P2 ?_);refine FA 1942 db xZ ?_;refine LT 1 JX x.replies ?_ (hc:=by exact RepT.at_replies x rfl);refine cM (k:=0) (news:=ints (List.flatMap ReplyT.flat rs)) (nn':=rs.length) (xs':=ints (List.flatMap ReplyT.flat rs)) (ab rfl) rfl rfl rfl JX zw rfl rfl rfl rfl rfl rfl (λ_ s=>Qp 2 rfl rfl s) (bB _) (by simp only[maxLen];omega) (by omega) (by simp) (by simp) (λv7 ov7=>PS ?_);exact nx J2 (ak (WK [1,1,0] (aw rfl rfl ⟨_,rfl,rfl⟩)))
end Go.Proofs.YtmcjhkbcmmddgaaGreat
end

section
namespace Api
open Go Leg Codec Dsk Wal
def j6(w:Int)(x:RowT):RecT:= {RecT.zero with kind:=1,whose:=w,row:=x}
def ji(w:Int):RecT:= {RecT.zero with kind:=2,whose:=w}
def gg(v:ViewT):RecT:= {RecT.zero with kind:=5,view:=v}
def qO(v:Int):MsgT:= {MsgT.zero with kind:=1,version:=v}
def hY(w:Int)(x:RowT):MsgT:= {MsgT.zero with kind:=9,whose:=w,row:=x}
section
variable {x:RepT} {from' w:Int} {y:RowT} {recs:List (List UInt8)}
end
section
variable {x:RepT} {from' w:Int} {v:ViewT} {recs:List (List UInt8)}
end
end Api
end

section
namespace Go.Proofs.YtmcjhkbcmmddgaaGreat
open Go Leg Codec Api Dsk Wal
theorem G2(r:Nat)(x:RepT)(o:OpT):
 DT 53 #[(.pointer (some ⟨r,0,none⟩)),(.agg (ints o.flat).toArray)] T0 [an r (RepT.cells x) 94] (RI (.tuple #[.agg (ints (kK x o).1.flat).toArray, .int .i64 (kK x o).2.1, .int .i64 (kK x o).2.2]) [an r (RepT.cells x) 94]):=by
 refine BD 121 Tryz.func53 rfl rfl rfl λw0 F hF=>sr λ_ J1=>XY (ints o.flat) λb3=>?_
 refine XZ vS (ints RowT.zero.flat) λb4=>?_
 refine P2 ?_;refine nx J1 (aa λ_ J2=>aa λ_ J3=>D1 2 bo ?_);refine PD 0 ?_;refine PD 1 ?_;refine FD 2 2 db be ?_;refine ta 3 rfl (aL (vs:=ints x.view.flat) rfl eL rfl be rfl (λ_ h=>h.2.1) (ai x.view) (gy x 0 rfl (by decide) (bn (ai x.view)))) ?_;refine PD 4 ?_;refine PD 5 ?_;refine FD 6 0 db aQ ?_;refine LR 7 Y3 (cF x rfl) ?_;refine AL 8 ?_;refine CE qh (dH x.view x.id) ID ?_;refine bh ?_ ?_<;>intro h17;refine EN (PD 9 ?_);refine DN (af J3 (CN (qx J2 (aa λ_ J4=>sr λ_ J5=>FA 3 fT aQ ?_))));refine LU 1 Y3 (pL o rfl) ?_;refine PS ?_;refine aq ?_ ?_<;>intro h22;have hkb:nl o.key=false:=decide_eq_false (by omega);refine PS ?_
 iterate 3 refine UT ?_
 refine PS ?_;refine nx J5 (CY (sr λ_ J6=>BV ((ints RowT.zero.flat).toArray) ?_));refine SW 0 bj am ?_;refine P2 ?_;refine nx J6 (ak (ae (RU 0 [2] ez bj (am _) ?_)));exact⟨by simp[kK,iG, *],rfl⟩;refine PS ?_;refine FA 3 fT aQ ?_;refine LU 1 Y3 (pL o rfl) ?_;refine PS ?_;refine aq ?_ ?_<;>intro h26;have hkb:nl o.key=false:=decide_eq_false (by omega);refine PS ?_;refine nx J5 (CY (sr λ_ J7=>BV ((ints RowT.zero.flat).toArray) ?_));refine SW 0 bj am ?_;refine P2 ?_;refine nx J7 (ak (ae (RU 0 [2] ez bj (am _) ?_)));exact⟨by simp[kK,iG, *],rfl⟩;have hkb:nl o.key=true:=decide_eq_true (by omega);refine PS ?_;refine nx J5 (CN (qx J4 (aa λ_ J8=>sr λ_ J9=>FA 0 fT aQ ?_)));refine LU 1 Y3 (c7 o rfl) ?_;refine PS ?_;refine aq ?_ ?_<;>intro h31;refine nx J9 (CY (aa λ_ J10=>D1 1 bo ?_));refine ta 0 rfl (kn (cells:=(ints RowT.zero.flat).toArray) rfl rfl (by as_aux_lemma=>kernel_rfl)) ?_;refine PD 1 ?_;refine PD 2 ?_;refine FD 3 1068 db BI ?_;refine FD 4 3 fT aQ ?_;refine LR 5 Y3 (pL o rfl) ?_;refine AL 6 ?_;refine CE Nz (qu r 1068 94 (λu=>RepT.cells {x with book:=u}) (gC x) x.book o.key) (SM [2]) ?_;refine EN (AL 7 ?_);refine SW 1 bj am ?_;refine EN (PD 8 ?_);refine PD 9 ?_;refine DN (af J10 (ak (ae (RU 1 [0] ez bj (am _) ?_))));exact⟨by simp[kK,iG, *],rfl⟩;refine nx J9 (CN (qx J8 (aa λ_ J11=>sr λ_ J12=>P2 ?_)));refine FA 1938 db lm ?_;refine LU 2 Y4 (yy x rfl) ?_;refine bh ?_ ?_<;>intro h42
 refine nx J12 (CY (sr λ_ J13=>BV ((ints RowT.zero.flat).toArray) ?_));refine SW 0 bj am ?_;refine P2 ?_;refine nx J13 (ak (ae (RU 0 [2] ez bj (am _) ?_)));exact⟨by simp[kK,iG, *],rfl⟩;refine nx J12 (CN (qx J11 (sr λ_ J14=>XZ vS (ints RowT.zero.flat) λb7=>?_)));refine nx J14 (sr λ_ J15=>PS ?_);refine nx J15 (aa λ_ J16=>sr λ_ J17=>FA 0 fT aQ ?_);refine LU 2 Y3 (c7 o rfl) ?_;refine nx J17 (av (sr λ_ J18=>PS ?_));refine aq ?_ ?_<;>intro h47;refine PS ?_;refine nx J18 (CY (D2 3 2 bo ?_));refine PD 0 ?_;refine PD 1 ?_;refine FD 2 9 db bj ?_;refine ta 3 rfl (aL (vs:=ints x.own.flat) rfl ez rfl bj rfl (λ_ h=>h.2.1) (am x.own) (yw x 0 rfl (by decide) (bn (am x.own)))) ?_;refine FD 4 3 fT aQ ?_;refine LR 5 Y3 (pL o rfl) ?_;refine FD 6 4 fT aQ ?_;refine LR 7 Y3 (xP o rfl) ?_;refine AL 8 ?_;refine CE Pk (Ce x.own o.key o.n) ID ?_;refine EN (PD 9 ?_);refine PD 10 ?_;refine PD 11 ?_;refine AL 12 ?_;refine SW 0 bj am ?_;refine EN (PD 13 ?_);refine DN (ah (af J16 (aa λ_ J19=>sr λ_ J20=>P2 ?_)));refine aq ?_ ?_<;>intro h98;refine nx J20 (CY (sr λ_ J21=>BV ((ints RowT.zero.flat).toArray) ?_));refine PS ?_;refine SW 1 bj am ?_;refine P2 ?_;refine nx J21 (ak (ae (RU 1 [3] ez bj (am _) ?_)));exact⟨by simp[kK,iG, *],rfl⟩;refine nx J20 (CN (qx J19 (aa λ_ J22=>aa λ_ J23=>D2 2 3 bo ?_)));refine FD 0 0 fT aQ ?_;refine LR 1 Y3 (c7 o rfl) ?_;refine PD 2 ?_;refine jT ?_ ?_<;>intro h103
 · exact absurd h47 h103
 refine PD 3 ?_;refine NT 4 ?_;refine NT 5 ?_;refine NT 6 ?_;refine NT 7 ?_;refine NT 8 ?_;refine NT 9 ?_;refine NT 10 ?_;refine NT 11 ?_;refine NT 12 ?_;refine NT 13 ?_;refine NT 14 ?_;refine NT 15 ?_;refine NT 16 ?_;refine PD 17 ?_;refine DN (af J23 (CN (qx J22 (sr λ_ J24=>LW 0 ez bj am ?_))));refine SW 1 bj am ?_;refine P2 ?_;refine nx J24 (ak (RU 1 [3] ez bj (am _) ?_));exact⟨by simp[kK,iG, *],rfl⟩;refine PS ?_;refine nx J18 (CN (sr λ_ J25=>PS ?_));refine aq ?_ ?_<;>intro h61;refine PS ?_;refine nx J25 (CY (D2 3 2 bo ?_));refine PD 0 ?_;refine PD 1 ?_;refine FD 2 9 db bj ?_;refine ta 3 rfl (aL (vs:=ints x.own.flat) rfl ez rfl bj rfl (λ_ h=>h.2.1) (am x.own) (yw x 0 rfl (by decide) (bn (am x.own)))) ?_;refine FD 4 3 fT aQ ?_;refine LR 5 Y3 (pL o rfl) ?_;refine FD 6 4 fT aQ ?_;refine LR 7 Y3 (xP o rfl) ?_;refine AL 8 ?_;refine CE Pj (Cf x.own o.key o.n) ID ?_;refine EN (PD 9 ?_);refine PD 10 ?_;refine PD 11 ?_;refine AL 12 ?_;refine SW 0 bj am ?_;refine EN (PD 13 ?_);refine DN (ah (af J16 (aa λ_ J26=>sr λ_ J27=>P2 ?_)));refine aq ?_ ?_<;>intro h98;refine nx J27 (CY (sr λ_ J28=>BV ((ints RowT.zero.flat).toArray) ?_));refine PS ?_;refine SW 1 bj am ?_;refine P2 ?_;refine nx J28 (ak (ae (RU 1 [3] ez bj (am _) ?_)));exact⟨by simp[kK,iG, *],rfl⟩;refine nx J27 (CN (qx J26 (aa λ_ J29=>aa λ_ J30=>D2 2 3 bo ?_)));refine FD 0 0 fT aQ ?_;refine LR 1 Y3 (c7 o rfl) ?_;refine PD 2 ?_;refine jT ?_ ?_<;>intro h103;refine PD 3 ?_
 refine PD 4 ?_;refine PD 5 ?_;refine FD 6 1068 db BI ?_;refine PD 7 ?_;refine PD 8 ?_;refine FD 9 0 db aQ ?_;refine LR 10 Y3 (cF x rfl) ?_;refine FD 11 3 fT aQ ?_;refine LR 12 Y3 (pL o rfl) ?_;refine FD 14 4 fT aQ ?_;refine LR 15 Y3 (xP o rfl) ?_;refine AL 13 ?_;refine CE NA (pA r 1068 94 (λu=>RepT.cells {x with book:=u}) (gC x) x.book x.id o.key) (SM [3]) ?_;refine EN (PD 16 ?_);refine jT ?_ ?_<;>intro h117;refine PD 17 ?_;refine DN (af J30 (CY (sr λ_ J31=>BV ((ints RowT.zero.flat).toArray) ?_)));refine SW 2 bj am ?_;refine P2 ?_;refine nx J31 (ak (ae (RU 2 [0] ez bj (am _) ?_)));exact⟨by simp[kK,iG, *],rfl⟩;refine PD 17 ?_;refine DN (af J30 (CN (qx J29 (sr λ_ J32=>LW 1 ez bj am ?_))));refine SW 2 bj am ?_;refine P2 ?_;refine nx J32 (ak (RU 2 [0] ez bj (am _) ?_));exact⟨by simp[kK,iG, *],rfl⟩
 · exact absurd h47 h103
 refine PS ?_;refine nx J25 (CN (sr λ_ J33=>PS ?_));refine aq ?_ ?_<;>intro h75;refine PS ?_;refine nx J33 (CY (aa λ_ J34=>D2 2 3 bo ?_));refine FD 0 2 fT aQ ?_;refine LR 1 Y3 (ja o rfl) ?_;refine PD 2 ?_;refine PD 3 ?_;refine FD 4 0 db aQ ?_;refine LR 5 Y3 (cF x rfl) ?_;refine PD 6 ?_;refine jT ?_ ?_<;>intro h82;refine DN (af J34 (CY (D2 3 2 bo ?_)));refine PD 0 ?_;refine PD 1 ?_;refine FD 2 9 db bj ?_;refine ta 3 rfl (aL (vs:=ints x.own.flat) rfl ez rfl bj rfl (λ_ h=>h.2.1) (am x.own) (yw x 0 rfl (by decide) (bn (am x.own)))) ?_;refine FD 4 3 fT aQ ?_;refine LR 5 Y3 (pL o rfl) ?_;refine FD 6 4 fT aQ ?_;refine LR 7 Y3 (xP o rfl) ?_;refine FD 8 2 fT aQ ?_;refine LR 9 Y3 (ja o rfl) ?_;refine AL 10 ?_;refine CE Pi (At x.own o.key o.n o.to') ID ?_;refine EN (PD 11 ?_);refine PD 12 ?_;refine PD 13 ?_;refine AL 14 ?_;refine SW 0 bj am ?_;refine EN (PD 15 ?_);refine DN (ah (af J16 (aa λ_ J35=>sr λ_ J36=>P2 ?_)));refine aq ?_ ?_<;>intro h98;refine nx J36 (CY (sr λ_ J37=>BV ((ints RowT.zero.flat).toArray) ?_));refine PS ?_;refine SW 1 bj am ?_;refine P2 ?_;refine nx J37 (ak (ae (RU 1 [3] ez bj (am _) ?_)));exact⟨by simp[kK,iG, *],rfl⟩;refine nx J36 (CN (qx J35 (aa λ_ J38=>aa λ_ J39=>D2 2 3 bo ?_)));refine FD 0 0 fT aQ ?_;refine LR 1 Y3 (c7 o rfl) ?_;refine PD 2 ?_;refine jT ?_ ?_<;>intro h103;refine PD 3 ?_;refine PD 4 ?_;refine PD 5 ?_;refine FD 6 1068 db BI ?_;refine PD 7 ?_;refine PD 8 ?_;refine FD 9 0 db aQ ?_
 refine LR 10 Y3 (cF x rfl) ?_;refine FD 11 3 fT aQ ?_;refine LR 12 Y3 (pL o rfl) ?_;refine FD 14 4 fT aQ ?_;refine LR 15 Y3 (xP o rfl) ?_;refine AL 13 ?_;refine CE NA (pA r 1068 94 (λu=>RepT.cells {x with book:=u}) (gC x) x.book x.id o.key) (SM [3]) ?_;refine EN (PD 16 ?_);refine jT ?_ ?_<;>intro h117;refine PD 17 ?_;refine DN (af J39 (CY (sr λ_ J40=>BV ((ints RowT.zero.flat).toArray) ?_)));refine SW 2 bj am ?_;refine P2 ?_;refine nx J40 (ak (ae (RU 2 [0] ez bj (am _) ?_)));exact⟨by simp[kK,iG, *],rfl⟩;refine PD 17 ?_;refine DN (af J39 (CN (qx J38 (sr λ_ J41=>LW 1 ez bj am ?_))));refine SW 2 bj am ?_;refine P2 ?_;refine nx J41 (ak (RU 2 [0] ez bj (am _) ?_));exact⟨by simp[kK,iG, *],rfl⟩
 · exact absurd h47 h103
 refine DN (af J34 (CN (aT (ah (af J16 (aa λ_ J42=>sr λ_ J43=>P2 ?_))))));refine nx J43 (CY (sr λ_ J44=>BV ((ints RowT.zero.flat).toArray) ?_));refine PS ?_;refine SW 1 bj am ?_;refine P2 ?_;refine nx J44 (ak (ae (RU 1 [3] ez bj (am _) ?_)));exact⟨by simp[kK,iG, *],rfl⟩;refine PS ?_;refine nx J33 (CN (aT (ah (af J16 (aa λ_ J45=>sr λ_ J46=>P2 ?_)))));refine nx J46 (CY (sr λ_ J47=>BV ((ints RowT.zero.flat).toArray) ?_));refine PS ?_;refine SW 1 bj am ?_;refine P2 ?_;refine nx J47 (ak (ae (RU 1 [3] ez bj (am _) ?_)));exact⟨by simp[kK,iG, *],rfl⟩;refine EN (PD 9 ?_);refine DN (af J3 (CY (sr λ_ J48=>BV ((ints RowT.zero.flat).toArray) ?_)));refine SW 0 bj am ?_;refine P2 ?_;refine nx J48 (ak (ae (RU 0 [2] ez bj (am _) ?_)));exact⟨by simp[kK,iG, *],rfl⟩
theorem EV(x:Value)(l:List Int)(v:Int)(hl:l.length≤1000000):
    DT 154 #[x,(.int .i64 (v))] (IsI .i64 x l) [] (dL (λr' H=>∃n:Int,r'= .int .i64 n∧(decide (n≥0)=true↔v∈l)∧H=[])):=by
 refine BD 19 Tryz.func154 rfl rfl rfl λw0 F hF=>sr λ_ J1=>PS ?_
 refine nx J1 (aa λ_ J2=>sr λ_ J3=>PS ?_);refine tp (dW rfl kE rfl hF.len) ?_;refine PS ?_;refine nx J3 (av ?_)
 refine bG (α:=(Nat)) (λk=>k≤l.length∧∀(j:Nat),j<k→l.getD j 0≠v) (λk=>[(0,x),(1,(.int .i64 (v))),(7,(.int .i64 (((l.length:Nat):Int)))),(8,(.int .i64 (((k:Nat):Int))))]) (λk=>[]) (λk=>l.length-k) 0
     ⟨aP _,λj h=>absurd h (by omega)⟩ SB
     (λ_ s=>s) (λk hinv=>?_)
 obtain⟨hk,hv⟩:=hinv;refine sr λ_ J4=>PS ?_
 refine aq ?_ ?_<;>intro h9;obtain⟨b_a,off_a,cap_a,cs_a,T_a,z_a,hv_a,hb_a,hcs_a,hcp_a⟩:=IsI.at hF (j:=k) (by omega);refine nx J4 (aa λ_ J5=>CY (qx J5 (aa λ_ J6=>av (sr λ_ J7=>P2 ?_))));refine nx J7 (sr λ_ J8=>P3 ?_);refine tp (ca (r:=off_a+k) hv_a rfl kE aQ rfl rfl (by omega) (by omega) (by omega)) ?_;refine tp (de (v:=(.int .i64 ((l.getD k 0)))) rfl Y3 rfl rfl (DU hb_a (λ_ h=>fC h)) hcs_a) ?_;refine PS ?_;refine aq ?_ ?_<;>intro h16;refine nx J8 (CY (sr λ_ J9=>P2 ?_));refine nx J9 (ak (aI (ae (ae (aI (ae (WK [] (aw rfl rfl ?_))))))));exact⟨((k:Nat):Int),rfl,by rw[decide_eq_true_iff];exact⟨λ_=>by rw[h16,List.getD_eq_getElem?_getD,List.getElem?_eq_getElem (by omega)];exact eg _,λ_=>by omega⟩,rfl⟩;refine nx J8 (CN (aT (ah (af J6 (ag (AD ?_))))));refine PS ?_;refine ax ?_
 exact aN ((k+1):(Nat)) ⟨by omega,λj hj=>by
        by_cases q:j=k
        · subst q;exact λe=>h16 e.symm
        · exact hv j (by omega)⟩ (by show l.length- (k+1)<l.length-k;omega)
   SB
   (λ_ s=>s)
 refine nx J4 (aa λ_ J10=>CN (bg (aC (aC (bD (af J2 (sr λ_ J11=>PS ?_)))))));refine nx J11 (ak (WK [] (aw rfl rfl ?_)))
 exact⟨-1,rfl,by
      rw[decide_eq_true_iff];constructor
      · intro h;omega
      · intro h
        obtain⟨j,hj,e⟩:=fB h;have:=hv j (by omega);rw[List.getD_eq_getElem?_getD,List.getElem?_eq_getElem hj]at this
        exact absurd e this,rfl⟩
theorem rc(x:Value)(l:List Int)(v:Int)(hl:l.length≤1000000):
 DT 134 #[x,(.int .i64 (v))] (IsI .i64 x l) [] (RI (.bool (decide (v∈l))) []):=by
 refine BD 9 Tryz.func134 rfl rfl rfl λw0 F hF=>sr λ_ J1=>PS ?_
 refine nx J1 (sr λ_ J2=>P2 ?_);refine CQ NQ (EV x l v hl) ID (λ_ d _=>IsI.more hF d) λvR HR hR=>?_
 obtain⟨n,rfl,hn,rfl⟩:=hR;refine P2 ?_;refine nx J2 (ak (WK [] (aw rfl rfl ?_)));exact⟨congrArg Value.bool (by rw[zR,hn,decide_eq_true_iff]),rfl⟩
end Go.Proofs.YtmcjhkbcmmddgaaGreat
end

section
namespace Api
open Go Leg Codec
theorem sv{n:Int}(h:(Lit.int .i64 n).wf=true): -9223372036854775808≤n∧n<9223372036854775808:=by
 have m1:IntKind.i64.min= -9223372036854775808:=by decide
 have m2:IntKind.i64.max=9223372036854775807:=by decide
 simp only[Lit.wf,m1,m2,au,decide_eq_true_eq]at h;omega
theorem su{n:Int}{l:List Int}(h:0≤n∧n<9223372036854775808)(hl:WF l):WF (n::l):=λm hm=>by
 rcases bV.1 hm with rfl|hm
 · exact sq h
 · exact hl m hm
theorem mf{a b:List Int}(ha:WF a)(hb:WF b):WF (a++b):=λm hm=>by
 rcases bA.1 hm with hm|hm
 · exact ha m hm
 · exact hb m hm
theorem H8:WF []:=λ_ h=>by cases h
theorem OkB.wf{b:BallotT}(h:OkB b):WF b.flat:=su h.1 (su ⟨h.2.1,by have:=h.2.2;omega⟩ H8)
theorem OkC.wf{c:ChangeT}(h:OkC c):WF c.flat:=su ⟨h.1.1,by have:=h.1.2;omega⟩ (su ⟨h.2.1.1,by have:=h.2.1.2;omega⟩ (su ⟨h.2.2.1,by have:=h.2.2.2;omega⟩ H8))
theorem OQ:Nm 0:=⟨by decide,by decide⟩
theorem tf(m:MsgT):(bS m).length≤3000:=by
 have h1:=iR m.row;have h2:=aY m.ballot.flat;have h3:=aY m.had.flat;have h4:=aY m.change.flat;have h5:=aY m.view.flat;have h6:=aY [m.kind,m.whose];have h7:=aY [m.kind,m.version];have h8:=aY [m.kind,m.epoch];have h9:=aY [m.kind];simp only[BallotT.flat,ChangeT.flat,ViewT.flat,az,aB,aA]at h2 h3 h4 h5 h6 h7 h8 h9;unfold bS;split
 · simp only[aj];omega
 split
 · omega
 split
 · simp only[aj,BallotT.flat];omega
 split
 · simp only[aj,BallotT.flat,ChangeT.flat];omega
 split
 · simp only[aj,BallotT.flat,ChangeT.flat];omega
 split
 · simp only[aj,ViewT.flat];omega
 split
 · simp only[aj,ViewT.flat];omega
 · simp
theorem Ch:io RowT.zero=true:=by decide+kernel
theorem Ks{m:RecT}{bs r:List UInt8}(h:dz bs=some ((m,true),r)):io m.row=true:=by
 obtain⟨k,r1,_,h⟩:=ba h;split at h
 · obtain⟨_,_,_,h⟩:=ba h
   obtain⟨e,_⟩:=fO h;injection e with e1 e2;subst e1;exact e2
 split at h
 · obtain⟨_,_,_,h⟩:=ba h
   obtain⟨_,_,_,h⟩:=ba h;obtain⟨e,_⟩:=fO h;injection e with e1 e2;subst e1;exact e2
 have fin: ∀{m':RecT} {g:Bool} {b r:List UInt8},pr (m',g) b=some ((m,true),r)→m'.row= .zero→io m.row=true:=λh e=>by
  obtain⟨e',_⟩:=fO h;injection e' with e1 e2;subst e1;rw[e];exact Ch
 split at h
 · obtain⟨_,_,_,h⟩:=ba h;exact fin h rfl
 split at h
 · obtain⟨_,_,_,h⟩:=ba h;obtain⟨_,_,_,h⟩:=ba h;exact fin h rfl
 split at h
 · obtain⟨_,_,_,h⟩:=ba h;obtain⟨_,_,_,h⟩:=ba h;obtain⟨_,_,_,h⟩:=ba h;exact fin h rfl
 split at h
 · obtain⟨_,_,_,h⟩:=ba h;exact fin h rfl
 · exact fin h rfl
theorem Jr(bs:List UInt8):(∃m,dC bs=(m,0)∧bs=dZ m∧io m.row=true∧WF m.row.flat)∨dC bs=(.zero,1):=by
 unfold dC;split
 · rename_i m h
   obtain⟨h1,_,_,_,h5⟩:=Cj h;rw[aU]at h1;exact .inl ⟨m,rfl,h1,Ks h,h5.wf⟩
 · exact .inr rfl
end Api
end

section
namespace Go.Proofs.YtmcjhkbcmmddgaaGreat
open Go Leg Codec Api
theorem wO(ob:Nat)(ok:Bool):DoesD Tryz.prog 116 #[(.pointer (some ⟨ob,0,none⟩))] (.returning) (λ_=>True) [an ob [(.bool (ok))] 4] (λe u' H=>e= .returned (.tuple #[])∧settle u'= .returning∧H=[an ob [.bool ok] 4]):=by
 refine DoesD.recover2 (vs:=[(.pointer (some ⟨ob,0,none⟩))]) (n:=15) (u':= .returning) (rv:= .nilIface) Tryz.func116 rfl rfl rfl rfl rfl rfl rfl rfl rfl rfl rfl (λc0 cs hu=>by cases c0;simp only at hu;subst hu;rfl) (λw0 F c0 cs hF=>?_);refine aa (λK1 hK1=>?_);refine aa (λK2 hK2=>?_);refine ag ?_;refine lp (ab rfl) rfl rfl (j8 rfl rfl) ?_;refine lp (ab rfl) rfl rfl (PV.nilNil rfl Tryz.underlying20 rfl) ?_;refine ax ?_;refine af hK2 ?_;clear hK2;refine nE rfl ?_;refine ak ?_;refine ae ?_;clear hK1;refine aG (dP _) (λ_ s=>ao [0] rfl s) ?_;refine TE.retS0 rfl ?_;refine⟨rfl,rfl,?_⟩;rfl
theorem Ay(ob:Nat)(ok:Bool):DoesD Tryz.prog 116 #[(.pointer (some ⟨ob,0,none⟩))] (.panicking iQ) (λ_=>True) [an ob [(.bool (ok))] 4] (λe u' H=>e= .returned (.tuple #[])∧settle u'= .returning∧H=[an ob [.bool false] 4]):=by
 refine DoesD.recover2 (vs:=[(.pointer (some ⟨ob,0,none⟩))]) (n:=15) (u':= .panicking [{v:=(.iface 199 (.agg #[])),recovered:=true}]) (rv:=(.iface 199 (.agg #[]))) Tryz.func116 rfl rfl rfl rfl rfl rfl rfl rfl rfl rfl rfl (λc0 cs hu=>by cases c0;simp only at hu;subst hu;rfl) (λw0 F c0 cs hF=>?_);refine aa (λK1 hK1=>?_);refine aa (λK2 hK2=>?_);refine ag ?_;refine lp (ab rfl) rfl rfl (j8 rfl rfl) ?_;refine lp (ab rfl) rfl rfl (PV.ifaceNil rfl Tryz.underlying20 rfl) ?_;refine ax ?_;refine af hK2 ?_;clear hK2;refine Gk rfl ?_;refine aT ?_;refine af hK1 ?_;clear hK1;refine aa (λK3 hK3=>?_);refine aa (λK4 hK4=>?_);refine ag ?_;refine lp (ab rfl) rfl rfl (j8 rfl rfl) ?_;refine lp (ab rfl) rfl rfl (PV.assert rfl HU rfl rfl) ?_;refine lp (ab rfl) rfl rfl (j8 rfl rfl) ?_;refine lp (ab rfl) rfl rfl (c9 (vs:=[.agg #[], .bool true]) rfl rfl rfl) ?_;refine lp (ab rfl) rfl rfl (c9 (vs:=[.agg #[], .bool true]) rfl rfl rfl) ?_;refine qC (ab rfl) rfl rfl rfl OV (λb2=>?_);change TL _ _ _ _ _ _ _ _ _ [an b2 [] 199,an ob [(.bool (ok))] 4];refine bR (vs:=[]) (i:=0) (H':=[an b2 [] 199,an ob [(.bool (ok))] 4]) (ab rfl) rfl rfl rfl rfl rfl Nb (by simp[Value.oneCell']) rfl rfl (KJ rfl) rfl rfl ?_;refine lp (ab rfl) rfl rfl (Qh rfl rfl) ?_;refine ax ?_;refine af hK4 ?_;clear hK4;refine aa (λK5 hK5=>?_);refine ag ?_;refine lp (ab rfl) rfl rfl (j8 rfl rfl) ?_;refine lp (ab rfl) rfl rfl (jm (r:=false) rfl rfl rfl) ?_;refine ax ?_
 refine af hK5 ?_;clear hK5;refine Gk rfl ?_;refine aT ?_;refine af hK3 ?_;clear hK3;refine ag ?_;refine cd (i:=1) (H':=[an b2 [] 199,an ob [(.bool false)] 4]) (ab rfl) rfl rfl rfl rfl rfl lm rfl rfl (lb rfl) rfl rfl ?_;refine ax ?_;refine aG (dP _) (λ_ s=>ao [1] rfl s) ?_;refine TE.endS0 rfl ?_;refine⟨rfl,rfl,?_⟩;exact rfl
theorem GT{fid:Nat}{caps:List Value}{x:Value}{bs:List UInt8}{C G:HP}{A:List UInt8→HP}{R:Hl→Prop}(hR: ∀F,R F→IsB x bs F)(hmono: ∀F g,R F→Dj g F→R (jn g F))(hN:Named Tryz.prog fid)
 (hc: ∀rb,DT fid ([Value.pointer (some ⟨rb,0,none⟩)]++caps).toArray R [an rb [x] 197,C] (vv (λ_ H=>∃x' r,H=[an rb [x'] 197,A r]∧Tail x bs x' r) (λc H=>c=iQ∧∃x',H=[an rb [x'] 197,G]))):
 DT 83 #[x, .func (.func fid) #[] caps.toArray] R [C] (dL (λv H=>(∃r,v= .bool (decide (r=[]))∧H=[A r])∨(v= .bool false∧H=[G]))):=by
 refine Leg.Does.bodyD (vs:=[x, .func (.func fid) #[] caps.toArray]) (n:=21) Tryz.func83 rfl rfl rfl (λw0 F hF=>sr λ_ J1=>XA z4 λb4=>?_);refine nx J1 (sr λ_ J2=>PS ?_);refine tp (PV.buildOne rfl Bj OW rfl n4 rfl (hR _ hF).one) ?_;refine XB λb8=>?_
 refine PS ?_;refine nx J2 (sr λ_ J3=>tp (Qe rfl rfl) ?_);refine TL.deferFn (ab rfl) rfl rfl rfl (nx J3 (aa λ_ J4=>sr λ_ J5=>PS ?_));refine tp (PV.funcNeqNil rfl Tryz.underlying169 rfl) ?_;refine nx J5 (CY (ag (P2 ?_)));refine TL.callPv (ab rfl) rfl rfl rfl rfl hN rfl (hc b8) (λ_ s=>aE [0,1] rfl s) (MT hmono hF) (λcP HP hP=>?_) (λvR HR hR'=>?_);obtain⟨rfl,x',rfl⟩:=hP;refine ay ?_;intro a w fr sm m;refine rM (b:=b4) (e:=4) (A:=[an b4 [(.bool false)] 4]) (B:=[an b8 [x'] 197,G]) (H':=[G]) fr sm m (by simp) I1 (Ay b4 _) (λ_ s=>aE [2] rfl s) (λ_ _ _=>trivial) rfl rfl Y4 rfl (λH1 h1=>?_);subst h1;refine⟨[.bool false], .bool false,fu 0 rfl rfl,rfl,λ_ s=>ao [2] rfl s,?_⟩;exact .inr ⟨rfl,rfl⟩;obtain⟨x',r,rfl,htl⟩:=hR';have hB:=htl F (hR _ hF);rcases hB with⟨rfl,rfl⟩| ⟨b,off,cap,cs,T,z,rfl,hB1,hB2,hB3,hB4⟩
 refine nx J4 (sr λ_ J6=>P2 ?_);refine FA 0 Bj n4 ?_;refine LA 0 ia ?_;refine tp (tE rfl ia rfl) ?_;refine PS ?_;refine S0 2 lm ?_;refine nx J6 (ak ?_);intro a w fr sm m;refine rM (b:=b4) (e:=4) (A:=[an b4 [(.bool true)] 4]) (B:=[an b8 [(.slice none 0 0)] 197,(A [])]) (H':=[(A [])]) fr sm m (by simp) I1 (wO b4 _) (λ_ s=>aE [2] rfl s) (λ_ _ _=>trivial) rfl rfl Y4 rfl (λH1 h1=>?_);subst h1;refine⟨[.bool true], .bool true,fu 0 rfl rfl,rfl,λ_ s=>ao [2] rfl s,?_⟩;exact .inl ⟨[],rfl,rfl⟩;refine nx J4 (sr λ_ J7=>P2 ?_);refine FA 0 Bj n4 ?_;refine LA 0 ia ?_;refine tp (tE rfl ia rfl) ?_;refine PS ?_;refine S0 2 lm ?_;refine nx J7 (ak ?_);intro a w fr sm m;refine rM (b:=b4) (e:=4) (A:=[an b4 [(.bool (decide (((r.length:Nat):Int)=0)))] 4]) (B:=[an b8 [(.slice (some ⟨b,off,none⟩) (r.length) (cap))] 197,(A r)]) (H':=[(A r)]) fr sm m (by simp) I1 (wO b4 _) (λ_ s=>aE [2] rfl s) (λ_ _ _=>trivial) rfl rfl Y4 rfl (λH1 h1=>?_);subst h1;refine⟨[.bool (decide (((r.length:Nat):Int)=0))], .bool (decide (((r.length:Nat):Int)=0)),fu 0 rfl rfl,rfl,λ_ s=>ao [2] rfl s,?_⟩;exact .inl ⟨r,by congr 1;rw[decide_eq_decide];cases r<;>simp<;>omega,rfl⟩
theorem y7{fid:Nat}{caps:List Value}{x:Value}{bs:List UInt8}{α β:Type}{C:List HP}{A:α→List HP}{G:β→List HP}{φ:α→List UInt8→Prop}{ψ:β→Prop}{R:Hl→Prop}(hR: ∀F,R F→IsB x bs F)(hmono: ∀F g,R F→Dj g F→R (jn g F))(hN:Named Tryz.prog fid)
 (hc: ∀rb,DT fid ([Value.pointer (some ⟨rb,0,none⟩)]++caps).toArray R (an rb [x] 197::C) (vv (λ_ H=>∃x' r a,H=an rb [x'] 197::A a∧Tail x bs x' r∧φ a r) (λc H=>c=iQ∧∃x' b,H=an rb [x'] 197::G b∧ψ b))):
 DT 83 #[x, .func (.func fid) #[] caps.toArray] R C (dL (λv H=>(∃r a,v= .bool (decide (r=[]))∧H=A a∧φ a r)∨(∃b,v= .bool false∧H=G b∧ψ b))):=by
 have h1:=GT (C:=all C) (G:=λh=>∃b,ψ b∧bN (G b) h) (A:=λr h=>∃a,φ a r∧bN (A a) h) hR hmono hN λrb=>
  (hc rb).conv (post':=vv (λ_ H=>∃x' r,H=[an rb [x'] 197,λh=>∃a,φ a r∧bN (A a) h]∧Tail x bs x' r) (λc H=>c=iQ∧∃x',H=[an rb [x'] 197,λh=>∃b,ψ b∧bN (G b) h]))
   (λh s=>wA s λ_=>La)
   (λe H F w hp m=>by
    cases e with
    |returned v=>
     obtain⟨x',r,a,rfl,ht,hf⟩:=hp;exact⟨[an rb [x'] 197,λh=>∃a,φ a r∧bN (A a) h],m.mono λh s=>wA s λh s=>rD ⟨a,hf,s⟩,x',r,rfl,ht⟩
    |panicked c=>
     obtain⟨hc,x',b,rfl,hf⟩:=hp;exact⟨[an rb [x'] 197,λh=>∃b,ψ b∧bN (G b) h],m.mono λh s=>wA s λh s=>rD ⟨b,hf,s⟩,hc,x',rfl⟩
    |outgrown=>exact hp.elim)
 refine h1.conv (λh s=>Kn s) λe H F w hp m=>?_
 cases e with
 |returned v=>
  rcases hp with⟨r,hv,rfl⟩| ⟨hv,rfl⟩
  · obtain⟨h,d,e,g1,g2,d',rfl,⟨a,hf,s⟩,_⟩:=m
    exact⟨A a,⟨_,d,e,lQ _ s d'⟩, .inl ⟨r,a,hv,rfl,hf⟩⟩
  · obtain⟨h,d,e,g1,g2,d',rfl,⟨b,hf,s⟩,_⟩:=m
    exact⟨G b,⟨_,d,e,lQ _ s d'⟩, .inr ⟨b,hv,rfl,hf⟩⟩
 |panicked c=>exact hp.elim
 |outgrown=>exact hp.elim
end Go.Proofs.YtmcjhkbcmmddgaaGreat
end
