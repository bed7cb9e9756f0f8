/-
  Joined texts:what a statement's proof reaches.
-/
import Derived.Test.YtfocodjhmkokpaaGreatDoorRows
import Derived.LaidSub
import Derived.Stop.LaidErr
import Derived.Lib.LaidTab
import Derived.Test.YtfocodjhmkokpaaGreatDoorPTC8
set_option maxHeartbeats 8000000
set_option maxRecDepth 100000
set_option linter.unusedSimpArgs false
set_option linter.unusedVariables false
section
namespace Api
open Go Leg Codec Dsk Wal
abbrev Dg(n:Int):Prop:= -9223372036854775807≤n∧n≤9223372036854775807
abbrev oy:Int:=1099511627776
def BkR(b:BookT):Prop:=∀(i:Nat) (_:i<5),fF b.rows[i]=true
theorem BkR.zero:BkR .zero:=λi hi=>by
 match i,hi with
 |0,_|1,_|2,_|3,_|4,_=>exact qT
theorem BkR.row{b:BookT}(h:BkR b)(w:Int):fF (cD b w)=true:=by
 unfold cD;split
 · exact h _ _
 · exact qT
theorem BkR.merge{b:BookT}(h:BkR b)(w:Int)(y:RowT):BkR (fh b w y).1:=by
 unfold fh;split
 · rename_i q
   simp only[ay]at q;unfold x7;split
   · rename_i hw;exact λi hi=>og (p:=λy=>fF y=true) (fy hw) h q.1.2 i hi
   · exact h
 · exact h
structure CellS(c:CellT):Prop where
 inn:0≤c.inn∧c.inn≤oy
 out:0≤c.out∧c.out≤oy
 given: ∀n∈c.given.toList,0≤n∧n≤oy
theorem CellS.of{c:CellT}(h:Ny c=true):CellS c:=by
 unfold Ny F0 at h;simp only[ay,decide_eq_true_eq]at h;exact⟨h.1.1,h.1.2,λn hn=>of_decide_eq_true (Fc _ _ h.2 n hn)⟩
theorem CellS.zero:CellS .zero:=CellS.of (by decide)
abbrev JJ:= @CellS.zero
theorem EZ{y:RowT}(h:fF y=true)(k:Nat)(hk:k<4):CellS y.cells[k]:=by
 unfold fF BX at h;simp only[ay,decide_eq_true_eq]at h;exact CellS.of (h.1.2 k hk)
theorem GK{y:RowT}(h:fF y=true)(i k:Nat)(hi:i<5)(hk:k<4):CellS y.left[i][k]:=by
 unfold fF at h;simp only[ay,decide_eq_true_eq]at h;have h2:=h.2 i hi;unfold El BX at h2;simp only[ay,decide_eq_true_eq]at h2;exact CellS.of (h2.1.2 k hk)
theorem zB{y:RowT}(h:fF y=true)(who of' key:Int):CellS (ju y who of' key).1:=by
 unfold ju;split
 · split
   · unfold dT
     split
     · exact EZ h _ _
     · exact JJ
   · split
     · unfold B7
       split
       · exact GK h _ _ _ _
       · exact JJ
     · exact JJ
 · exact JJ
theorem EY{b:BookT}(h:BkR b)(of' key:Int): ∀k,CellS (vz b of' key k).1
 |0=>JJ
 |k+1=>by
  rw[ri];unfold rj;simp only;split
  · exact zB (h.row _) _ _ _
  · exact EY h of' key k
theorem pS{b:BookT}(h:BkR b)(of' key:Int):CellS (cT b of' key):=EY h of' key 5
theorem C2{b:BookT}(h:BkR b)(key:Int): ∀k:Nat,k≤5→ -(oy* ((k:Nat):Int))≤m4 b key k∧m4 b key k≤oy* ((k:Nat):Int)
 |0,_=>by
  show-(oy*0)≤(0:Int)∧(0:Int)≤oy*0;decide
 |k+1,hk=>by
  have ih:=C2 h key k (by omega);have c:=pS h ((k:Nat):Int) key;have c1:=c.inn;have c2:=c.out;simp only[oy]at ih c1 c2 ⊢;rw[m3];generalize m4 b key k=x at*;generalize (cT b ((k:Nat):Int) key).inn=y at*;generalize (cT b ((k:Nat):Int) key).out=z at*;rw[sA (n:=y-z) (by omega) (by omega),sA (by omega) (by omega)];omega
theorem xh{b:BookT}(h:BkR b)(key:Int):Dg (eN b key):=by
 have:=C2 h key 5 (by omega);simp only[oy]at this;unfold eN;exact⟨by omega,by omega⟩
theorem oC(a:CL): ∀j,BkR (iy a j)
 |0=>BkR.zero
 |j+1=>by
  have merge: ∀(s:MS LD) (b:BookT),BkR b→∀k,BkR (rI s b k):=λs b hb k=>by
   induction k with
   |zero=>exact hb
   |succ k ih=>exact ih.merge _ _
  rw[iy];split
  · exact merge _ _ (oC a j) 5
  · exact oC a j
theorem qB(a:CL):BkR (ce a):=oC a 5
def Within(m:Int)(l:List Int):Prop:=∀n∈l, -m≤n∧n≤m
theorem Within.more{m k:Int}{l:List Int}(h:Within m l)(hk:m≤k):Within k l:=λn hn=>by have:=h n hn;omega
theorem Within.set{m:Int}{l:List Int}(h:Within m l)(i:Nat){n:Int}(hn: -m≤n∧n≤m):Within m (l.set i n):=λx hx=>by
 rcases Re hx with hx|rfl
 · exact h x hx
 · exact hn
theorem Within.at'{m:Int}(hm:0≤m){l:List Int}(h:Within m l)(i:Nat): -m≤l.getD i 0∧l.getD i 0≤m:=by
 rw[List.getD_eq_getElem?_getD];cases q:l[i]?with
 |none=>exact⟨by show-m≤0;omega,hm⟩
 |some x=>exact h x (List.mem_of_getElem? q)
theorem Eo{c:CellT}(h:CellS c)(i:Nat):0≤c.given.toList.getD i 0∧c.given.toList.getD i 0≤oy:=by
 rw[List.getD_eq_getElem?_getD];cases q:c.given.toList[i]?with
 |none=>exact⟨Int.le_refl _,by show(0:Int)≤1099511627776;decide⟩
 |some x=>exact h.given x (List.mem_of_getElem? q)
theorem G4{m x y z:Int}(h0:0≤m)(hm:m≤100000000000000)(hx: -m≤x∧x≤m)(hy:0≤y∧y≤oy)(hz:0≤z∧z≤oy): -(m+oy)≤fR (x+fR (y-z))∧fR (x+fR (y-z))≤m+oy:=by
 simp only[oy]at*;rw[sA (n:=y-z) (by omega) (by omega),sA (by omega) (by omega)];omega
theorem Kk{B:BookT}(hB:BkR B)(key:Int)(i ow:Nat){S:List Int}{m:Int}(h0:0≤m)(hm:m≤50000000000000)(h:Within m S): ∀j:Nat,j≤5→Within (m+oy* ((j:Nat):Int)) (L9 B key i ow S j)
 |0,_=>h.more (by simp)
 |j+1,hj=>by
  have ih:=Kk hB key i ow h0 hm h j (by omega);have e:m+oy* (((j+1:Nat):Nat):Int)=m+oy* ((j:Nat):Int)+oy:=by simp only[oy];omega
  have b1:0≤m+oy* ((j:Nat):Int):=by simp only[oy];omega
  have b2:m+oy* ((j:Nat):Int)≤100000000000000:=by simp only[oy];omega
  rw[L9,Od,e];exact(ih.more (by simp only[oy];omega)).set _ (G4 b1 b2 (ih.at' b1 _) (Eo (pS hB _ _) _) (Eo (pS hB _ _) _))
theorem Kj{B:BookT}(hB:BkR B)(key:Int)(v:ViewT): ∀i:Nat,i≤5→Within (oy*6* ((i:Nat):Int)) (tN B key v i)
 |0,_=>λn hn=>by
  obtain rfl:=List.eq_of_mem_replicate hn;exact⟨by show-(oy*6*0)≤(0:Int);decide,by show(0:Int)≤oy*6*0;decide⟩
 |i+1,hi=>by
  have ih:=Kj hB key v i (by omega);have b1:0≤oy*6* ((i:Nat):Int):=by simp only[oy];omega
  have b2:oy*6* ((i:Nat):Int)≤49000000000000:=by simp only[oy];omega
  have e:oy*6* (((i+1:Nat):Nat):Int)=oy*6* ((i:Nat):Int)+oy+oy* ((5:Nat):Int):=by simp only[oy];omega
  rw[tN];split
  · rw[e]
    have c:=pS hB ((i:Nat):Int) key
    have h1:Within (oy*6* ((i:Nat):Int)+oy) (Kl B key i (ua v i).toNat (tN B key v i)):=by
     unfold Kl;exact(ih.more (by simp only[oy];omega)).set _ (G4 b1 (by omega) (ih.at' b1 _) c.inn c.out)
    exact Kk hB key i _ (by simp only[oy]at*;omega) (by simp only[oy]at*;omega) h1 5 (aH _)
  · exact ih.more (by simp only[oy];omega)
theorem Ia(a:CL)(key:Int): ∀n∈tN (ce a) key (io a) 5,Dg n:=λn hn=>by
 have:=Kj (qB a) key (io a) 5 (aH _) n hn;simp only[oy]at this;exact⟨by omega,by omega⟩
class BK(s:MS LD):Prop where
 bk:BkR s.book
section
variable {s:MS LD}
theorem BK.same{t:MS LD}(h:BK s)(e:t.book=s.book):BK t:=⟨by rw[e];exact h.bk⟩
instance [h:BK s](r:RecT):BK (dN KD s r):=h.same rfl
instance [h:BK s](m:List SaidT):BK (ja KD s m):=h.same rfl
instance [h:BK s](t:Int)(m:MsgT):BK (BE KD s t m):=h.same rfl
instance [h:BK s]:BK (eY KD s):=h.same rfl
instance [h:BK s](f:Int):BK (iM s f):=h.same rfl
instance [h:BK s]:BK (lM s):=h.same rfl
instance [h:BK s](a b c:Int):BK (dp s a b c):=h.same rfl
instance [h:BK s]:BK (bo s):=h.same rfl
instance [h:BK s](w:Int)(x:RowT):BK (A7 s w x):=⟨h.bk.merge _ _⟩
instance [h:BK s]:BK (gR s):=⟨h.bk.merge _ _⟩
instance [h:BK s](w:Int):BK (lD s w):=h.same rfl
instance [h:BK s](f w:Int)(y:RowT):BK (tG s f w y):=h.same rfl
instance [h:BK s](n:Int):BK (dB s n):=h.same rfl
instance [h:BK s](v:VoteT):BK (la s v):=h.same rfl
instance [h:BK s](a:AccT):BK (vC s a):=h.same rfl
instance [h:BK s](w:Int)(x:RowT):BK (iz s w x):=h.same rfl
instance [h:BK s](v:ViewT):BK (lB s v):=h.same rfl
instance [h:BK s](x:RowT)(op:Int):BK (q8 s x op):=h.same rfl
instance [h:BK s](y:RowT):BK (kO KD s y):=h.same rfl
instance [h:BK s](v:ViewT):BK (lU KD s v):=h.same rfl
instance [h:BK s](m:MsgT):BK (jq KD s m):=h.same rfl
instance [h:BK s](x:RowT)(op:Int):BK (dX KD s x op).1:=by unfold dX;split<;>exact inferInstance
instance [h:BK s]:BK (lC KD s):=by
 unfold lC
 repeat' split
 all_goals first|exact h|exact inferInstance
instance [h:BK s](f:Int)(m:MsgT):BK (dv KD s f m):=by
 unfold dv kw
 repeat' split
 all_goals first|exact h|exact inferInstance
instance [h:BK s](f:Int)(m:MsgT):BK (gH KD s f m):=by
 unfold gH
 repeat' split
 all_goals first|exact h|exact inferInstance
instance [h:BK s](f:Int)(m:MsgT):BK (eT KD s f m):=by unfold eT;split<;>exact inferInstance
theorem qO[BK s]{f:MS LD→MS LD}(hf:BK (f s))(t:Int)(m:MsgT):BK (lO KD f s t m):=by unfold lO;split;exact hf;exact inferInstance
instance [h:BK s](f w:Int):BK (eL KD s f w):=by
 unfold eL
 repeat' split
 · exact h
 · exact qO inferInstance _ _
 · exact inferInstance
 · exact qO inferInstance _ _
instance [h:BK s](i w:Int):BK (gz KD s i w):=by
 unfold gz;split
 · exact h
 · exact qO inferInstance _ _
instance [BK s](i:Int):BK (lE KD s i):=by unfold lE;exact inferInstance
theorem A0: ∀(l:List Int) (s:MS LD),BK s→BK (gg KD l s)
 | [],_,h=>h
 |i::l,s,_=>A0 l (lE KD s i) inferInstance
instance [h:BK s]:BK (pR KD s):=A0 _ _ h
instance [h:BK s](v:ViewT):BK (gP KD s v):=by
 unfold gP
 repeat' split
 all_goals first|exact h|exact inferInstance
instance [h:BK s](f:Int)(m:MsgT):BK (jj KD s f m):=by unfold jj;exact inferInstance
instance [h:BK s](c:ChangeT):BK (jw KD s c):=by
 unfold jw
 repeat' split
 all_goals first|exact h|exact inferInstance
instance [h:BK s](f:Int)(m:MsgT):BK (kh KD f m s):=by
 unfold kh
 repeat' split
 all_goals first|exact h|exact inferInstance
theorem tx[h:BK s]{f:MS LD→MS LD}(hf: ∀s:MS LD,BK s→BK (f s))(w:Int)(m:MsgT):BK (ez KD f s w m):=by
 unfold ez
 repeat' split
 · exact inferInstance
 · exact h
 · exact h
 · exact hf _ inferInstance
instance [BK s](w:Int)(m:MsgT):BK (pw KD s w m):=tx (λ_ _=>inferInstance) w m
instance [h:BK s](w:Int)(m:MsgT):BK (kn KD w m s):=by unfold kn;exact qO inferInstance _ _
instance [h:BK s](w:Int)(m:MsgT):BK (mU KD w m s):=by
 unfold mU
 repeat' split
 all_goals first|exact h|exact inferInstance
instance [BK s](w:Int)(m:MsgT):BK (qH KD s w m):=tx (λ_ _=>inferInstance) w m
theorem vU[h:BK s]{f:MS LD→MsgT→MS LD}{m:MsgT}(hf: ∀s:MS LD,BK s→BK (f s m)):BK (hY KD f s m):=by
 unfold hY;split
 · exact hf _ inferInstance
 · exact inferInstance
instance [h:BK s](vt:VoteT):BK (jJ KD s vt):=vU λ_ _=>inferInstance
instance [h:BK s](f:Int)(m:MsgT):BK (oA KD f m s):=by
 unfold oA
 repeat' split
 all_goals first|exact h|exact inferInstance
instance [BK s](w:Int)(m:MsgT):BK (px KD s w m):=tx (λ_ _=>inferInstance) w m
instance [h:BK s](w:Int)(m:MsgT)(a:AccT):BK (kx KD w m a s):=by unfold kx;exact qO inferInstance _ _
instance [h:BK s](w:Int)(m:MsgT):BK (nZ KD w m s):=by
 unfold nZ
 repeat' split
 all_goals first|exact h|exact inferInstance
instance [BK s](w:Int)(m:MsgT):BK (qI KD s w m):=tx (λ_ _=>inferInstance) w m
instance [h:BK s](vt:VoteT):BK (lw KD s vt):=vU λ_ _=>inferInstance
instance [h:BK s](vt:VoteT):BK (lP KD s vt):=by unfold lP;split<;>exact inferInstance
instance [h:BK s](c:ChangeT):BK (nY KD s c):=by unfold nY;exact inferInstance
instance [h:BK s](c:ChangeT):BK (bW KD s c).1:=by
 unfold bW
 repeat' split
 all_goals first|exact h|exact inferInstance
instance [h:BK s](op:Int)(c:ChangeT):BK (dD KD s op c).1:=by
 unfold dD
 repeat' split
 all_goals exact inferInstance
instance [h:BK s](o:OpT):BK (l9 KD s o).1:=by
 unfold l9
 repeat' split
 all_goals exact inferInstance
instance [h:BK s](o:OpT):BK (bL KD s o).1:=by unfold bL;split<;>exact inferInstance
instance [h:BK s]:BK (bX KD s):=by unfold bX;split<;>exact inferInstance
instance [h:BK s]:BK (cj KD s):=by unfold cj;split;exact inferInstance;exact h
instance [h:BK s]:BK (fU KD s):=by unfold fU;split;exact inferInstance;exact h
instance [h:BK s]:BK (oS KD s):=by
 unfold oS
 repeat' split
 all_goals first|exact h|exact inferInstance
instance [h:BK s]:BK (gG KD s):=by unfold gG;split<;>exact inferInstance
instance [h:BK s](f:Int)(m:MsgT):BK (fS KD s f m):=by
 unfold fS
 repeat' split
 all_goals first|exact h|exact inferInstance
end
theorem BK.hush{s:MS LD}(h:BK s):BK s.hush:=h.same rfl
theorem Ir{s:MS LD}(m:RecT):(im s m).book=s.book:=by
 unfold im
 repeat' split
 all_goals rfl
theorem Ao: ∀(l:List (List UInt8)) {s s':MS LD},gN l s=some s'→s'.book=s.book
 | [],s,s',q=>by obtain rfl:=bK q;rfl
 |b::l,s,s',q=>by
  rw[gN]at q;split at q
  · cases q
  · rw[Ao l q,Ir]
theorem Dh{i:Nat}{D:DS}{s:MS LD}(h:(cf i D).1=some s):BK s:=⟨by
 obtain⟨_,q⟩:=gB h;rw[Ao _ q]
 exact BkR.zero⟩
theorem It{m:RecT}(hm:0≤m.kind∧m.kind<6)(h:(fO (gy m)).2=0):(fO (gy m)).1.kind=m.kind:=by
 obtain⟨e,hk,_⟩:=AV h;generalize (fO (gy m)).1=q at*;obtain⟨r,e1⟩:=vp hm;obtain⟨r',e2⟩:=vp hk;rw[e1,e2]at e;have:=(rS e).1;omega
inductive GW:List (List UInt8)→Int→Prop
 |nil:GW [] 0
 |own {ls:List (List UInt8)} {v:Int} {b:List UInt8} {w:Int}:GW ls v→v<w→w≤v+5→((fO b).2=0→(fO b).1.kind=0∧(fO b).1.row.version=w)→GW (ls++[b]) w
 |oth {ls:List (List UInt8)} {v:Int} {b:List UInt8}:GW ls v→((fO b).2=0→(fO b).1.kind≠0)→GW (ls++[b]) v
theorem GW.num{ls:List (List UInt8)}{v:Int}(h:GW ls v):0≤v∧v≤5* ((ls.length:Nat):Int):=by
 induction h with
 |nil=>exact⟨by decide,by decide⟩
 |own _ h1 h2 _ ih=>rw[ac,eW];omega
 |oth _ _ ih=>rw[ac,eW];omega
def Qw(v:Int)(b:List UInt8):Prop:=(fO b).2=0→((fO b).1.kind=0∧v< (fO b).1.row.version∧(fO b).1.row.version≤v+5)∨(fO b).1.kind≠0
theorem GW.add{ls:List (List UInt8)}{v:Int}(h:GW ls v){b:List UInt8}(q:Qw v b): ∃w,GW (ls++[b]) w:=by
 by_cases d:(fO b).2=0
 · rcases q d with⟨k,h1,h2⟩|k
   · exact⟨_,h.own h1 h2 λ_=>⟨k,rfl⟩⟩
   · exact⟨_,h.oth λ_=>k⟩
 · exact⟨_,h.oth λz=>absurd z d⟩
theorem My{n:Int}{e:LD}{ls:List (List UInt8)}{v:Int}(h:GW ls v): ∀s,gN ls (yi n e)=some s→s.own.version=v∧1≤s.view.epoch:=by
 have step: ∀{ls:List (List UInt8)} {b:List UInt8} {s:MS LD},gN (ls++[b]) (yi n e)=some s→∃t,gN ls (yi n e)=some t∧(fO b).2=0∧s=im t (fO b).1:=λ {ls b s} q=>by
  rw[xT]at q;split at q
  · cases q
  rename_i t ht;split at q
  · cases q
  rename_i d;exact⟨t,ht,Decidable.not_not.1 d,(bK q).symm⟩
 induction h with
 |nil=>
  intro s q;obtain rfl:=bK q;exact⟨rfl,by show(1:Int)≤1;decide⟩
 |own _ h1 h2 h3 ih=>
  intro s q;obtain⟨t,ht,d,rfl⟩:=step q;obtain⟨k,kv⟩:=h3 d;obtain⟨_,ie⟩:=ih t ht;unfold im;rw[if_pos k];exact⟨kv,ie⟩
 |oth _ h1 ih=>
  intro s q;obtain⟨t,ht,d,rfl⟩:=step q;obtain⟨iv,ie⟩:=ih t ht;unfold im;rw[if_neg (h1 d)]
  repeat' split
  all_goals first|exact⟨iv,ie⟩| (rename_i k5;exact⟨iv,Iu d k5⟩)
class TV(s:MS LD):Prop where
 ep:1≤s.view.epoch
 log: ∃ls,Logs s.e ls (Qw s.own.version)∧GW ls s.own.version
section
variable {s:MS LD}
theorem TV.bd(h:TV s):0≤s.own.version∧s.own.version≤10240:=by
 obtain⟨ls,a,b⟩:=h.log;have:=b.num;have:=a.len;omega
theorem TV.same{t:MS LD}(h:TV s)(h1:t.own=s.own)(h3:t.view=s.view)(h5:t.e=s.e):TV t:=⟨by rw[h3];exact h.ep,by rw[h1,h5];exact h.log⟩
theorem xi[ok:OkR KD s][h:TV s]{r:RecT}(h0:0<r.kind∧r.kind<6):TV (dN KD s r):=⟨h.ep,by
 have hr:(fO (gy r)).2=0→(fO (gy r)).1.kind≠0:=λd=>by rw[It ⟨by omega,h0.2⟩ d];omega
 obtain⟨ls,a,b⟩:=h.log;rcases a.put (bs:=gy r) ok.e (uy r) (λq=> .inr (hr q))with⟨_,q⟩| ⟨_,q⟩
 · exact⟨_,q _,b.oth hr⟩
 · exact⟨ls,q,b⟩⟩
instance [OkR KD s][TV s](w:Int):TV (dN KD s (jt w)):=xi (show(0:Int)<2∧(2:Int)<6 by decide)
instance [OkR KD s][TV s](w:Int)(y:RowT):TV (dN KD s (kd w y)):=xi (show(0:Int)<1∧(1:Int)<6 by decide)
instance [OkR KD s][TV s](v:ViewT):TV (dN KD s (kC v)):=xi (show(0:Int)<5∧(5:Int)<6 by decide)
instance [OkR KD s][TV s](e:Int)(b:BallotT):TV (dN KD s (ik e b)):=xi (show(0:Int)<3∧(3:Int)<6 by decide)
instance [OkR KD s][TV s](e:Int)(b:BallotT)(c:ChangeT):TV (dN KD s (l4 e b c)):=xi (show(0:Int)<4∧(4:Int)<6 by decide)
instance [h:TV s](m:List SaidT):TV (ja KD s m):=h.same rfl rfl rfl
instance [h:TV s](t:Int)(m:MsgT):TV (BE KD s t m):=h.same rfl rfl rfl
instance [h:TV s]:TV (eY KD s):=h.same rfl rfl rfl
instance [h:TV s](f:Int):TV (iM s f):=h.same rfl rfl rfl
instance [h:TV s]:TV (lM s):=h.same rfl rfl rfl
instance [h:TV s](a b c:Int):TV (dp s a b c):=h.same rfl rfl rfl
instance [h:TV s]:TV (bo s):=h.same rfl rfl rfl
instance [h:TV s](w:Int)(x:RowT):TV (A7 s w x):=h.same rfl rfl rfl
instance [h:TV s]:TV (gR s):=h.same rfl rfl rfl
instance [h:TV s](w:Int):TV (lD s w):=h.same rfl rfl rfl
instance [h:TV s](f w:Int)(y:RowT):TV (tG s f w y):=h.same rfl rfl rfl
instance [h:TV s](n:Int):TV (dB s n):=h.same rfl rfl rfl
instance [h:TV s](v:VoteT):TV (la s v):=h.same rfl rfl rfl
instance [h:TV s](a:AccT):TV (vC s a):=h.same rfl rfl rfl
instance [h:TV s](w:Int)(x:RowT):TV (iz s w x):=h.same rfl rfl rfl
theorem JV[h:TV s]{v:ViewT}(hv:1≤v.epoch):TV (lB s v):=⟨hv,h.log⟩
instance [h:TV s](y:RowT):TV (kO KD s y):=h.same rfl rfl rfl
instance [h:TV s](v:ViewT):TV (lU KD s v):=h.same rfl rfl rfl
instance [h:TV s](m:MsgT):TV (jq KD s m):=h.same rfl rfl rfl
theorem G0[ok:OkR KD s][h:TV s](x:RowT)[OkRow x](h1:s.own.version<x.version)(h2:x.version≤s.own.version+5)(op:Int):TV (dX KD s x op).1:=by
 obtain⟨ls,a,b⟩:=h.log
 have hq:Qw s.own.version (gy (gL x)):=λq=>by
  obtain⟨k,v⟩:=G9 q;exact .inl ⟨k,by omega,by omega⟩
 have r:=a.put (bs:=gy (gL x)) ok.e (uy _) hq;unfold dX;split
 · rename_i z
   rcases r with⟨q,_⟩| ⟨_,q⟩
   · exact absurd q z
   · exact⟨h.ep,ls,q,b⟩
 · rename_i z
   rcases r with⟨_,q⟩| ⟨q,_⟩
   · have:TV (q8 (dN KD s (gL x)) x op):=⟨h.ep,_,q _,b.own h1 h2 G9⟩
     exact inferInstanceAs (TV (eY KD (q8 (dN KD s (gL x)) x op)))
   · exact absurd q z
theorem Ek(hb:0≤s.own.version∧s.own.version≤10240)(hd: ¬(bE s).length=0):s.own.version< (nU s (bE s)).version∧(nU s (bE s)).version≤s.own.version+5:=by
 have hl:(bE s).length≤5:=AR s 5;have hm: ∀i∈bE s,cO i=true∧jQ s.view i=some s.id∧fb s.own i≤0:=λi hi=>uB hi
 unfold nU;generalize bE s=l at*
 match l,hd with
 | [],hd=>exact absurd rfl hd
 |i::l,_=>
  simp only[ah]at hl;obtain⟨a,_,b⟩:=hm i (cn ..);have nb: ¬0<fb s.own i:=by omega
  rw[List.foldl_cons,if_neg nb];have e:=Hu (d:=lY s i) a nb ⟨hb.1,by omega⟩;have:=yz (λi=>lY s i) l (cX s.own i (lY s i)).1 (λk hk=>(hm k (cI _ hk)).1) (by omega) (by omega);omega
theorem IG(hb:0≤s.own.version∧s.own.version≤10240)(o:OpT)(hp: ¬((cS s o).2.2≠0∨o.kind=3)):(cS s o).1.version=s.own.version+1:=by
 have more: ∀(k n c:Int) (u:CellT),(ka s.own k n c u).2=0→(ka s.own k n c u).1.version=s.own.version+1:=λk n c u q=>by
  unfold ka at q ⊢;split
  · rename_i z;rw[if_pos z]at q;exact absurd q (by decide)
  · exact sA (by omega) (by omega)
 have grow:(gd (s.rep .nil) o).2=0→(gd (s.rep .nil) o).1.version=s.own.version+1:=λq=>by
  unfold gd oE oF ln at q ⊢
  repeat' split
  all_goals first| (exact more _ _ _ _ (by simpa [*]using q))| (exfalso;simp[*]at q)
 have hp1:(cS s o).2.2=0:=Decidable.not_not.1 λq=>hp (.inl q)
 have hp2: ¬o.kind=3:=λq=>hp (.inr q)
 unfold cS iD at hp1 ⊢
 by_cases z1:jr (s.rep .nil).view (s.rep .nil).id=false
 · rw[if_pos z1]at hp1;exact absurd hp1 (by decide)
 rw[if_neg z1]at hp1 ⊢
 by_cases z2:na o.key=false
 · rw[if_pos z2]at hp1;exact absurd hp1 (by decide)
 rw[if_neg z2,if_neg hp2]at hp1 ⊢
 by_cases z3:(s.rep .nil).busy=true
 · rw[if_pos z3]at hp1;exact absurd hp1 (by decide)
 rw[if_neg z3]at hp1 ⊢
 by_cases z4:(gd (s.rep .nil) o).2≠0
 · rw[if_pos z4]at hp1;exact absurd hp1 z4
 rw[if_neg z4]at hp1 ⊢
 by_cases z5:o.kind≠0∧nX (s.rep .nil).book (s.rep .nil).id o.key<o.n
 · rw[if_pos z5]at hp1;exact absurd hp1 (by decide)
 rw[if_neg z5];exact grow (Decidable.not_not.1 z4)
instance [OkR KD s][h:TV s]:TV (lC KD s):=by
 unfold lC;split
 · exact h
 rename_i q;split
 · have hd: ¬(bE s).length=0:=λz=>q (by rw[decide_eq_true z,Bool.or_true])
   obtain⟨a,b⟩:=Ek h.bd hd;exact G0 _ a b 0
 · exact h
instance [OkR KD s][h:TV s](f:Int)(m:MsgT):TV (dv KD s f m):=by
 unfold dv kw
 repeat' split
 all_goals first|exact h|exact inferInstance
instance [OkR KD s][h:TV s](f:Int)(m:MsgT)[OkMg m]:TV (gH KD s f m):=by
 unfold gH
 repeat' split
 all_goals first|exact h|exact inferInstance
instance [OkR KD s][h:TV s](f:Int)(m:MsgT)[OkMg m]:TV (eT KD s f m):=by unfold eT;split<;>exact inferInstance
theorem qM[TV s]{f:MS LD→MS LD}(hf:TV (f s))(t:Int)(m:MsgT):TV (lO KD f s t m):=by unfold lO;split;exact hf;exact inferInstance
instance [OkR KD s][h:TV s](f w:Int):TV (eL KD s f w):=by
 unfold eL
 repeat' split
 · exact h
 · exact qM inferInstance _ _
 · exact inferInstance
 · exact qM inferInstance _ _
instance [OkR KD s][h:TV s](i w:Int):TV (gz KD s i w):=by
 unfold gz;split
 · exact h
 · exact qM inferInstance _ _
instance [OkR KD s][TV s](i:Int):TV (lE KD s i):=by unfold lE;exact inferInstance
theorem AY: ∀(l:List Int) (s:MS LD),OkR KD s→TV s→TV (gg KD l s)
 | [],_,_,h=>h
 |i::l,s,_,h=>AY l (lE KD s i) inferInstance inferInstance
instance [OkR KD s][h:TV s]:TV (pR KD s):=AY _ _ inferInstance h
instance [OkR KD s][h:TV s](v:ViewT)[OkVw v]:TV (gP KD s v):=by
 unfold gP;split
 · exact h
 rename_i q;split
 · exact inferInstance
 · have:=h.ep
   have:TV (lB (dN KD s (kC v)) v):=JV (by omega);exact inferInstance
instance [OkR KD s][h:TV s](f:Int)(m:MsgT)[OkMg m]:TV (jj KD s f m):=by unfold jj;exact inferInstance
instance [OkR KD s][h:TV s](c:ChangeT):TV (jw KD s c):=by
 unfold jw
 repeat' split
 all_goals first|exact h|exact inferInstance
instance [OkR KD s][h:TV s](f:Int)(m:MsgT):TV (kh KD f m s):=by
 unfold kh;split
 · exact h
 · rename_i vt hv
   have:=OkR.vote (s:=s) (K:=KD) vt hv;split<;>exact inferInstance
theorem tu[OkR KD s][h:TV s]{f:MS LD→MS LD}(hf: ∀s:MS LD,OkR KD s→TV s→TV (f s))(w:Int)(m:MsgT):TV (ez KD f s w m):=by
 unfold ez
 repeat' split
 all_goals first|exact h|exact hf _ inferInstance inferInstance|exact inferInstance
instance [OkR KD s][TV s](w:Int)(m:MsgT):TV (pw KD s w m):=tu (λ_ _ _=>inferInstance) w m
instance [OkR KD s][h:TV s](w:Int)(m:MsgT):TV (kn KD w m s):=by unfold kn;exact qM inferInstance _ _
instance [OkR KD s][h:TV s](w:Int)(m:MsgT)[OkMg m]:TV (mU KD w m s):=by
 unfold mU
 repeat' split
 all_goals first|exact h|exact inferInstance
instance [OkR KD s][TV s](w:Int)(m:MsgT)[OkMg m]:TV (qH KD s w m):=tu (λ_ _ _=>inferInstance) w m
theorem vQ[OkR KD s][h:TV s]{f:MS LD→MsgT→MS LD}{m:MsgT}(hf: ∀s:MS LD,OkR KD s→TV s→TV (f s m)):TV (hY KD f s m):=by
 unfold hY;split
 · exact hf _ inferInstance inferInstance
 · exact inferInstance
instance [OkR KD s][h:TV s](vt:VoteT)[OkVt vt]:TV (jJ KD s vt):=vQ λ_ _ _=>inferInstance
instance [OkR KD s][h:TV s](f:Int)(m:MsgT)[OkMg m]:TV (oA KD f m s):=by
 unfold oA;split
 · exact h
 · rename_i vt hv
   have:=OkR.vote (s:=s) (K:=KD) vt hv;split<;>exact inferInstance
instance [OkR KD s][TV s](w:Int)(m:MsgT)[OkMg m]:TV (px KD s w m):=tu (λ_ _ _=>inferInstance) w m
theorem yX[OkR KD s][h:TV s](w:Int)(m:MsgT)[OkMg m]{a:AccT}(ha:OkAc a):TV (kx KD w m a s):=by
 have:=OkMg.promM m.epoch (m:=m) ha;unfold kx;exact qM inferInstance _ _
instance [OkR KD s][h:TV s](w:Int)(m:MsgT)[OkMg m]:TV (nZ KD w m s):=by
 unfold nZ
 repeat' split
 · exact h
 · exact inferInstance
 · exact yX w m inferInstance
 · exact yX w m inferInstance
instance [OkR KD s][TV s](w:Int)(m:MsgT)[OkMg m]:TV (qI KD s w m):=tu (λ_ _ _=>inferInstance) w m
instance [OkR KD s][h:TV s](vt:VoteT)[OkVt vt]:TV (lw KD s vt):=vQ λ_ _ _=>inferInstance
instance [OkR KD s][h:TV s](vt:VoteT)[OkVt vt]:TV (lP KD s vt):=by unfold lP;split<;>exact inferInstance
instance [OkR KD s][h:TV s](c:ChangeT):TV (nY KD s c):=by unfold nY;exact inferInstance
instance [OkR KD s][h:TV s](c:ChangeT):TV (bW KD s c).1:=by
 unfold bW
 repeat' split
 all_goals first|exact h|exact inferInstance
instance [OkR KD s][h:TV s](op:Int)(c:ChangeT)[OkCh c]:TV (dD KD s op c).1:=by
 unfold dD
 repeat' split
 all_goals exact inferInstance
theorem Jt[OkR KD s][h:TV s](o:OpT)[OkCh o.change]:TV (bL KD s o).1:=by
 unfold bL;split
 · exact inferInstance
 · unfold l9
   split
   · exact inferInstance
   · rename_i q
     have e:=IG (s:=bo s) h.bd o q;have:TV (dX KD (bo s) (cS (bo s) o).1 (bo s).ops).1:=G0 _ (by omega) (by omega) _;split
     · exact inferInstance
     · exact this
instance [OkR KD s][h:TV s]:TV (bX KD s):=by unfold bX;split<;>exact inferInstance
instance [OkR KD s][h:TV s]:TV (cj KD s):=by unfold cj;split;exact inferInstance;exact h
instance [OkR KD s][h:TV s]:TV (fU KD s):=by unfold fU;split;exact inferInstance;exact h
instance [OkR KD s][h:TV s]:TV (oS KD s):=by
 unfold oS;split
 · exact h
 · rename_i vt hv
   have:=OkR.vote (s:=s) (K:=KD) vt hv
   repeat' split
   all_goals first|exact h|exact inferInstance
instance [OkR KD s][h:TV s]:TV (gG KD s):=by unfold gG;split<;>exact inferInstance
instance [OkR KD s][h:TV s](f:Int)(m:MsgT)[OkMg m]:TV (fS KD s f m):=by
 unfold fS
 repeat' split
 all_goals first|exact h|exact inferInstance
end
def O0(D:DS):Prop:=∃ls v,Rests D ls (Qw v)∧GW ls v
theorem C3{i:Nat}{D:DS}(h:O0 D)(hw:D.dn=false→D.ws=[]):(∀s,(cf i D).1=some s→TV s)∧((cf i D).1=none→O0 (bI D).D):=by
 obtain⟨ls,v,r,g⟩:=h;rcases r.open hw with⟨e,r⟩| ⟨ls',D',e,ad,lg,dn⟩
 · have n:(cf i D).1=none:=by unfold cf;rw[if_pos e]
   exact⟨(λs q=>by rw[n]at q;cases q),λ_=>⟨ls,v,r,g⟩⟩
 · obtain⟨w,g⟩: ∃w,GW ls' w:=by
    rcases ad with rfl| ⟨bs,q,rfl⟩
    · exact⟨v,g⟩
    · exact g.add q
   refine⟨λs q=>?_,λ_=>by rw[e];exact⟨ls',w, .inl lg,g⟩⟩;obtain⟨_,q⟩:=gB q;rw[e]at q;obtain⟨k1,k2⟩:=My g s q;have f:=(mE _ (qm _ _) q).e;refine⟨k2,ls',?_,by rw[k1];exact g⟩;rw[f];exact .inl ⟨dn,lg,rfl,rfl⟩
theorem Ph{s:MS LD}(h:TV s)(mask torn n:Int):O0 (s.e.D.crash mask torn n):=by
 obtain⟨ls,a,b⟩:=h.log;exact⟨ls,_,a.crash _ _ _,b⟩
structure RunP(P:MS LD→Prop)(a:CL):Prop where
 ok: ∀i s,(a.at' i).run=some s→P s
section
variable {P:MS LD→Prop}
theorem RunP.put{a:CL}(h:RunP P a){i:Nat}(hi:i<a.ms.length){x:Slot}{W:List (List MsgT)}(hx: ∀s,x.run=some s→P s):RunP P ⟨a.ms.set i x,W⟩:=⟨λj s q=>by
 rw[Fu hi]at q;split at q
 · exact hx s q
 · exact h.ok j s q⟩
theorem M0{n:Nat}{a:CL}(h:CLOk n a)(g:RunP P a)(o:OpT)(h1: ∀s,P s→P (bL KD s o).1)(h2: ∀s f m,P s→P (fS KD s f m))(h3: ∀s,P s→P (gG KD s))(h4: ∀s,P s→P s.hush)(h5: ∀s D,P s→P (s.dsk D))(h6: ∀i D s,(cf i D).1=some s→P s):RunP P (zy a o).1:=by
 have did: ∀{i:Nat} {s t:MS LD},i<5→(a.at' i).run=some s→P t→RunP P (a.did i t):=λhi _ ht=>RunP.put g (by rw[h.ms];exact hi) λs q=>by
  obtain rfl:=bK q;exact h4 _ ht
 unfold zy
 by_cases hm':gp o.at'=false
 · rw[if_pos hm'];exact g
 rw[if_neg hm'];obtain⟨hi,_⟩:=jd (show gp o.at'=true by simpa using hm');have hi2:o.at'.toNat<a.ms.length:=by rw[h.ms];exact hi
 split
 · unfold yQ
   split
   · exact g
   · rename_i s hs
     split
     · exact g
     · exact did hi hs (h1 s (g.ok _ s hs))
 split
 · unfold n9
   split
   · exact g
   split
   · exact g
   split
   · split
     · exact⟨g.ok⟩
     · exact g
   split
   · exact g
   split
   · exact⟨g.ok⟩
   · rename_i m' l _ _
     unfold p3;split
     · exact⟨g.ok⟩
     · rename_i s hs
       split
       · exact⟨g.ok⟩
       · split
         · have hs':(a.at' o.to'.toNat).run=some s:=hs
           unfold CL.did
           by_cases ht:o.to'.toNat<5
           · exact RunP.put (a:=a) g (by rw[h.ms];exact ht) λs q=>by
              obtain rfl:=bK q;exact h4 _ (h2 _ _ _ (g.ok _ _ hs'))
           · rw[show((a.way (bB o.at' o.to') l).ms.set o.to'.toNat _)=a.ms from g9 (by show a.ms.length≤_;rw[h.ms];omega)]
             exact⟨g.ok⟩
         · exact⟨g.ok⟩
 split
 · unfold xj
   split
   · exact g
   · rename_i s hs
     split
     · exact g
     · exact did hi hs (h3 s (g.ok _ s hs))
 split
 · refine g.put hi2 λs q=>?_
   unfold qe at q;split at q
   · rename_i t ht
     obtain rfl:=bK q;exact h5 _ _ (g.ok _ t ht)
   · rename_i ht
     have q:(a.at' o.at'.toNat).run=some s:=q;rw[ht]at q;cases q
 split
 · exact g.put hi2 λs q=>by cases q
 split
 · refine g.put hi2 λs q=>?_
   unfold fq at q;split at q
   · exact g.ok _ s q
   · exact h6 _ _ _ q
 · exact g
theorem KZ(h6: ∀i D s,(cf i D).1=some s→P s):RunP P CL.new:=⟨λi s q=>by
 by_cases hi:i<5
 · have e:CL.new.at' i=iQ i:=by simp[CL.new,CL.at',List.getD_eq_getElem?_getD,hi]
   rw[e]at q;unfold iQ at q;rcases xt q with q|q
   · cases q
   exact h6 _ _ _ q
 · have e:CL.new.at' i= .nil:=by
    unfold CL.at' CL.new;rw[List.getD_eq_getElem?_getD,List.getElem?_eq_none (by rw[bQ,gv];omega),y6]
   rw[e]at q;cases q⟩
end
theorem Qz{n:Nat}{a:CL}(h:CLOk n a)(g:RunP BK a)(o:OpT):RunP BK (zy a o).1:=
 M0 h g o (λ_ _=>inferInstance) (λ_ _ _ _=>inferInstance) (λ_ _=>inferInstance) (λ_ h=>h.hush) (λ_ _ h=>h.same rfl) λ_ _ _ q=>Dh q
theorem Sml.dg{n:Int}(h:Sml n):Dg n:=⟨by have:=h.1;omega,by have:=h.2;omega⟩
structure RD(r:ReplyT):Prop where
 op:Dg r.op
 err:Dg r.err
 value:Dg r.value
theorem M3{x:RepT}(h:BkR x.book)(o:OpT):Dg (iD x o).2.1:=by
 unfold iD
 repeat' split
 all_goals first|exact Sml.dg (mc rfl)|exact xh h _
theorem Jv{s:MS LD}{m:Nat}[hb:BK s](g:RepOk m s)(hm:m≤1000000)(o:OpT): ∀r∈(bL KD s o).1.replies,r∈s.replies∨RD r:=by
 have rep: ∀(t u:MS LD) (op e v:Int),t.replies=s.replies→Dg op→Dg e→Dg v→u.replies=(dp t op e v).replies→∀r∈u.replies,r∈s.replies∨RD r:=λt u op e v ht h1 h2 h3 hu r hr=>by
  rw[hu]at hr;have hr:r∈t.replies++[⟨op,e,v⟩]:=hr;rcases bP.1 hr with hr|hr
  · rw[ht]at hr;exact .inl hr
  · rw[cm]at hr;subst hr;exact .inr ⟨h1,h2,h3⟩
 have z:Dg 0:=Sml.dg (mc rfl)
 have ho:Dg (bo s).ops:=by
  have:=g.ops;show Dg (fR (s.ops+1));rw[sA (by omega) (by omega)];exact⟨by omega,by omega⟩
 have hbg:Sml (bW KD (bo s) o.change).2:=by
  unfold bW
  repeat' split
  all_goals first|exact mc rfl|exact wT _ _
 unfold bL;split
 · unfold dD
   split
   · refine rep (bo s) _ _ _ 0 rfl ho (Sml.dg ?_) z rfl
     unfold fI;split
     · exact mc rfl
     · exact Dt _ _
   · have q:Qt (bo s) (bW KD (bo s) o.change).1:=inferInstance
     split
     · exact rep (bW KD (bo s) o.change).1 _ _ _ 0 q.replies ho hbg.dg z rfl
     · have q2:Qt (dp (bW KD (bo s) o.change).1 (bo s).ops 0 0) (lP KD (dp (bW KD (bo s) o.change).1 (bo s).ops 0 0) (jv (bo s).view (eI (bo s)) o.change)):=inferInstance
       exact rep (bW KD (bo s) o.change).1 _ _ 0 0 q.replies ho z z q2.replies
 · unfold l9
   split
   · exact rep (bo s) _ _ _ _ rfl ho (Ds _ _).dg (M3 hb.bk _) rfl
   · have hg:Sml (dX KD (bo s) (cS (bo s) o).1 (bo s).ops).2:=by
      unfold dX;split
      · exact wT _ _
      · exact mc rfl
     rcases Ca (K:=KD) (bo s) (cS (bo s) o).1 (bo s).ops with⟨h,q⟩| ⟨h,q,_⟩
     · rw[if_pos h]
       exact rep (dX KD (bo s) (cS (bo s) o).1 (bo s).ops).1 _ _ _ 0 q.replies ho hg.dg z rfl
     · rw[if_neg (by omega)]
       intro r hr;rw[q.replies,aL]at hr;exact .inl hr
def N6(a:CL):Prop:=∀i,∀r∈(a.at' i).reps,RD r
theorem MN:N6 CL.new:=λi r hr=>by
 by_cases hi:i<5
 · have e:CL.new.at' i=iQ i:=by simp[CL.new,CL.at',List.getD_eq_getElem?_getD,hi]
   rw[e]at hr;unfold iQ fq at hr;have hr:r∈(Slot.mk (cf i Slot.nil.D).1 (bI Slot.nil.D).D []).reps:=hr;cases hs:(cf i Slot.nil.D).1 with
   |none=>rw[hs]at hr;unfold Slot.reps at hr;simp at hr
   |some s=>
    rw[hs]at hr;obtain⟨_,hr'⟩:=gB hs;have f:=mE _ (qm _ _) hr';unfold Slot.reps at hr;simp[f.replies]at hr
 · have e:CL.new.at' i= .nil:=by
    unfold CL.at' CL.new;rw[List.getD_eq_getElem?_getD,List.getElem?_eq_none (by rw[bQ,gv];omega),y6]
   rw[e]at hr;unfold Slot.reps Slot.nil at hr;simp at hr
theorem OS{n m:Nat}{a:CL}(h:CLOk n a)(g:RepsOk m a)(b:RunP BK a)(hm:m≤1000000)(hw:N6 a)(o:OpT):N6 (zy a o).1:=by
 have did: ∀{i:Nat} {s t:MS LD} {W:List (List MsgT)},i<5→(a.at' i).run=some s→(∀r∈t.replies,r∈s.replies∨RD r)→N6 ⟨a.ms.set i {a.at' i with run:=some t.hush},W⟩:=λ {i s t W} hi hs ht j r hr=>by
  rw[Fu (by rw[h.ms];exact hi)]at hr;split at hr
  · rw[km (x:= {a.at' i with run:=some t.hush}) rfl]at hr
    have hsl: ∀r∈(a.at' i).past++s.replies,RD r:=λr hr=>hw i r (by rw[km hs];exact hr)
    rcases bP.1 hr with hr|hr
    · exact hsl r (Fk _ hr)
    · rcases ht r hr with hr|hr
      · exact hsl r (CA _ hr)
      · exact hr
  · exact hw j r hr
 have put: ∀{i:Nat} {x:Slot},i<5→x.reps=(a.at' i).reps→N6 (a.set i x):=λ {i x} hi hx j r hr=>by
  have hr:r∈((CL.mk (a.ms.set i x) a.W).at' j).reps:=hr;rw[Fu (by rw[h.ms];exact hi)]at hr;split at hr
  · rw[hx]at hr;exact hw i r hr
  · exact hw j r hr
 unfold zy
 by_cases hm':gp o.at'=false
 · rw[if_pos hm'];exact hw
 rw[if_neg hm'];obtain⟨hi,_⟩:=jd (show gp o.at'=true by simpa using hm');split
 · unfold yQ
   split
   · exact hw
   · rename_i s hs
     split
     · exact hw
     · have:=b.ok _ s hs
       exact did hi hs (Jv (g.ok _ s hs) hm o)
 split
 · unfold n9
   split
   · exact hw
   split
   · exact hw
   split
   · split
     · exact hw
     · exact hw
   split
   · exact hw
   split
   · exact hw
   · rename_i m' l _ _
     unfold p3;split
     · exact hw
     · rename_i s hs
       split
       · exact hw
       · split
         · have hs':(a.at' o.to'.toNat).run=some s:=hs
           by_cases ht:o.to'.toNat<5
           · refine did (W:=gJ (a.W.set (bB o.at' o.to') l) o.to'.toNat _) ht hs' λr hr=>?_
             rcases wR (K:=KD) s ((o.at'.toNat:Nat):Int) (js (dy m')).1 with q| ⟨hw',q,_,_⟩
             · rw[q.replies]at hr;exact .inl hr
             · rw[q.replies]at hr
               rcases bP.1 hr with hr|hr
               · exact .inl hr
               · rw[cm]at hr;subst hr
                 have h1:=(g.ok _ s hs').w hw';have h2:=(g.ok _ s hs').ops;exact .inr ⟨⟨by show-9223372036854775807≤s.waits;omega,by show s.waits≤9223372036854775807;omega⟩,Sml.dg ⟨Int.le_refl _,by show(0:Int)≤20;omega⟩,Sml.dg ⟨Int.le_refl _,by show(0:Int)≤20;omega⟩⟩
           · intro j r hr
             unfold CL.did at hr;rw[show((a.way (bB o.at' o.to') l).ms.set o.to'.toNat _)=a.ms from g9 (by show a.ms.length≤_;rw[h.ms];omega)]at hr;exact hw j r hr
         · exact hw
 split
 · unfold xj
   split
   · exact hw
   · rename_i s hs
     split
     · exact hw
     · refine did (W:=gJ a.W o.at'.toNat _) hi hs λr hr=>?_
       have q:Qt s (gG KD s):=inferInstance;rw[q.replies]at hr;exact .inl hr
 split
 · refine put hi ?_
   unfold qe;split
   · rename_i s hs
     rw[km hs,km (x:= {a.at' o.at'.toNat with run:=some (s.dsk (s.e.D.arm o.n))}) rfl];rfl
   · rename_i hs
     rw[jk hs];exact jk hs
 split
 · exact put hi (jk rfl)
 split
 · refine put hi ?_
   unfold fq;split
   · rfl
   · rename_i hs
     rw[jk hs];cases hd:(cf o.at'.toNat (a.at' o.at'.toNat).D).1 with
     |none=>exact jk rfl
     |some s=>
      obtain⟨_,hr⟩:=gB hd;have f:=mE _ (qm _ _) hr;show(Slot.mk (some s) _ (a.at' o.at'.toNat).past).reps=_;rw[km (x:=Slot.mk (some s) _ (a.at' o.at'.toNat).past) rfl,f.replies,aL]
 · exact hw
theorem G7: ∀(l:List OpT) {n m:Nat} {a:CL},CLOk n a→RepsOk m a→RunP BK a→N6 a→(∀o∈l,OkOp o)→m+l.length≤1000000→N6 (qR a l)
 | [],_,_,_,_,_,_,hw,_,_=>hw
 |o::l,n,m,a,h,g,b,hw,ho,hl=>by
  rw[ah]at hl;exact G7 l (HB h (ho o (cn ..))) (AT h g (by omega) o) (Qz h b o) (OS h g b (by omega) hw o) (λx hx=>ho x (cI _ hx)) (by omega)
structure VC(a:CL):Prop where
 run: ∀i,i<5→∀s,(a.at' i).run=some s→TV s
 D: ∀i,i<5→(a.at' i).run=none→O0 (a.at' i).D
section
variable {a:CL}
theorem VC.put(h:VC a)(h5:a.ms.length=5){i:Nat}(hi:i<5){x:Slot}{W:List (List MsgT)}(h1: ∀s,x.run=some s→TV s)(h2:x.run=none→O0 x.D):VC ⟨a.ms.set i x,W⟩:=by
 have hl:i<a.ms.length:=by omega
 refine⟨λj hj s q=>?_,λj hj q=>?_⟩
 · by_cases e:j=i
   · subst e;rw[rl hl]at q;exact h1 s q
   · rw[sv e]at q;exact h.run j hj s q
 · by_cases e:j=i
   · subst e;rw[rl hl]at q ⊢;exact h2 q
   · rw[sv e]at q ⊢;exact h.D j hj q
theorem VC.did(h:VC a)(h5:a.ms.length=5){i:Nat}(hi:i<5){s:MS LD}(hs:TV s):VC (a.did i s):=
 h.put h5 hi (λt q=>by
  obtain rfl:=bK q
  exact hs.same rfl rfl rfl) λq=>by cases q
theorem Pf{n:Nat}(g:CLOk n a)(h:VC a){o:OpT}(ho:OkOp o):VC (zy a o).1:=by
 unfold zy;split
 · exact h
 rename_i hm;have hm:gp o.at'=true:=by simpa using hm
 have hi:=(jd hm).1;split
 · unfold yQ
   split
   · exact h
   · rename_i s hs
     split
     · exact h
     · obtain⟨h1,h2,h3⟩:=(g.at' _ hi).run s hs
       have:=h.run _ hi s hs;have:=ho.change;exact h.did g.ms hi (Jt o)
 split
 · unfold n9
   split
   · exact h
   rename_i hv;split
   · exact h
   split
   · split
     · exact⟨h.run,h.D⟩
     · exact h
   split
   · exact h
   split
   · exact⟨h.run,h.D⟩
   · rename_i m l _ _
     have ht:o.to'.toNat<5:=by
      have hv:dM o.at' o.to'=true:=by simpa using hv
      unfold dM at hv;simp only[ay]at hv;exact(jd hv.1.2).1
     have h:VC (a.way (bB o.at' o.to') l):=⟨h.run,h.D⟩;unfold p3;split
     · exact h
     · rename_i s hs
       split
       · exact h
       · split
         · obtain⟨h1,h2,h3⟩:=(g.at' _ ht).run s hs
           have:=h.run _ ht s hs;have:=Cj (dy m);exact h.did g.ms ht inferInstance
         · exact h
 split
 · unfold xj
   split
   · exact h
   · rename_i s hs
     split
     · exact h
     · obtain⟨h1,h2,h3⟩:=(g.at' _ hi).run s hs
       have:=h.run _ hi s hs;exact h.did g.ms hi inferInstance
 split
 · cases ht:(a.at' o.at'.toNat).run with
   |some t=>
    rw[JA ht];refine h.put g.ms hi (λs q=>?_) λq=>by cases q
    obtain rfl:=bK q;have z:=h.run _ hi t ht;obtain⟨ls,l,b⟩:=z.log;exact⟨z.ep,ls,l.arm ho.n,b⟩
   |none=>
    rw[JB ht];refine h.put g.ms hi (λs q=>?_) λq=>?_
    · have q:(a.at' o.at'.toNat).run=some s:=q
      rw[ht]at q;cases q
    · obtain⟨ls,v,r,b⟩:=h.D _ hi ht
      exact⟨ls,v,r.arm ho.n,b⟩
 split
 · refine h.put g.ms hi (λs q=>by cases q) λ_=>?_
   show O0 ((a.at' o.at'.toNat).dk.crash o.mask o.torn o.cut);unfold Slot.dk;split
   · rename_i s hs
     exact Ph (h.run _ hi s hs) _ _ _
   · rename_i hs
     obtain⟨ls,v,l,b⟩:=h.D _ hi hs;exact⟨ls,v,l.crash _ _ _,b⟩
 split
 · have up:=(g.at' _ hi).D
   cases hs:(a.at' o.at'.toNat).run with
   |some s=>
    rw[Dm hs];exact h.put g.ms hi (h.run _ hi) (h.D _ hi)
   |none=>
    rw[Dn hs];obtain⟨h1,h2⟩:=C3 (h.D _ hi hs) (up hs).up;exact h.put g.ms hi h1 h2
 · exact h
theorem N9:VC CL.new:=by
 have st: ∀i,i<5→(∀s,(cf i DS.new).1=some s→TV s)∧((cf i DS.new).1=none→O0 (bI DS.new).D):=λi hi=>C3 ⟨[],0, .inl LogD.new, .nil⟩ λ_=>rfl
 refine⟨λi hi s q=>?_,λi hi q=>?_⟩
 · rw[(sP hi).1]at q
   exact(st i hi).1 s q
 · rw[(sP hi).1]at q
   rw[(sP hi).2];exact(st i hi).2 q
theorem JT: ∀(l:List OpT) {n:Nat} {a:CL},CLOk n a→VC a→(∀o∈l,OkOp o)→VC (qR a l)
 | [],_,_,_,h,_=>h
 |o::l,_,_,g,h,hl=>JT l (HB g (hl o (cn ..))) (Pf g h (hl o (cn ..))) λx hx=>hl x (cI _ hx)
end
structure Digs(a:CL):Prop where
 epoch: ∀i,i<5→∀s,(a.at' i).run=some s→Dg s.view.epoch
 version: ∀i,i<5→∀s,(a.at' i).run=some s→Dg s.own.version
 reps:N6 a
theorem Lt(l:List OpT)(ho: ∀o∈l,OkOp o)(hl:l.length≤1000000):Digs (qR .new l):=by
 have tc:=JT l new_ok N9 ho;have hok:=BF l new_ok ho;refine⟨λi hi s hs=>?_,λi hi s hs=>?_,G7 l new_ok yh (KZ λ_ _ _ q=>Dh q) MN ho (by omega)⟩
 · have h1:=(tc.run i hi s hs).ep
   have h2:=((hok.at' i hi).run s hs).1.view.wf;have h3:=tn (h2 s.view.epoch (by simp[ViewT.flat]));exact⟨by omega,by omega⟩
 · have h1:=tc.run i hi s hs
   have:=h1.bd;exact⟨by omega,by omega⟩
end Api
end

section
namespace Go.Proofs.YtfocodjhmkokpaaGreatDoor
open Go Leg Codec Api Dsk Wal
theorem Lu{u:Nat}(h:u<10):([.int .u8 (48+((u:Nat):Int))]:List Value)=dL (Jp u):=by
 match u,h with
 |0,_|1,_|2,_|3,_|4,_|5,_|6,_|7,_|8,_|9,_=>rfl
theorem Gg{u:Nat}(h: ¬u<10):Lib.itoa ((u / 10:Nat):Int)++Lib.itoa ((u%10:Nat):Int)=Lib.itoa ((u:Nat):Int):=by
 rw[Lib.itoa_nonneg,Lib.itoa_nonneg,Lib.itoa_nonneg,Lib.decDigits_one (Nat.mod_lt _ (by decide))]
 conv=>rhs;rw[Lib.decDigits,dif_neg h]
theorem Lh{u:Nat}(h:u<10):Lib.itoa ((u:Nat):Int)=Jp u:=by
 rw[Lib.itoa_nonneg,Lib.decDigits_one h];rfl
theorem Jn(u:Nat)(hu:u≤9223372036854775807)(ih: ∀m:Nat,m<u→DT 10 #[.int .i64 ((m:Nat):Int)] T0 [] (RI (iZ (Lib.itoa ((m:Nat):Int))) [])):
 DT 10 #[(.int .i64 (((u:Nat):Int)))] T0 [] (RI (iZ (Lib.itoa ((u:Nat):Int))) []):=by
 refine BD 23 Tryz.func10 rfl rfl rfl λw0 F hF=>sr λ_ J1=>PS ?_
 refine nx J1 (aa λ_ J2=>sr λ_ J3=>P2 ?_);refine aq ?_ ?_<;>intro h4
 · exact absurd h4 (by omega)
 refine nx J3 (CN (qx J2 (aa λ_ J4=>sr λ_ J5=>P2 ?_)));refine aq ?_ ?_<;>intro h10;refine nx J5 (CY (sr λ_ J6=>PS ?_));refine AD ?_;refine tp (eh rfl Y3 Y5 rfl (wO (by omega) (by omega))) ?_;refine aT (cells:=#[(.int .u8 (48+((u:Nat):Int)))]) (ab rfl) rfl rfl rfl gA yA rfl rfl rfl (by as_aux_lemma=>kernel_rfl) (λb14=>?_);change TL _ _ _ _ _ _ _ _ _ [ak b14 [(.int .u8 (48+((u:Nat):Int)))] 5];refine cz (H':=[cw (.slice (some ⟨b14,0,none⟩) (1) (1)) (Jp u) 5]) (λ_ s=>pz (g:=b14) (cap:=1) (nn:=1) (e:=5) (cur:=[.int .u8 (48+((u:Nat):Int))]) (xs:=dL (Jp u)) 0 rfl rfl (by decide) (by decide) rfl (Lu (by omega)) s) (tp (PV.bytesStr (l:=Jp u) rfl gA Y5 Y9 rfl (λ_ s=>Fp 0 rfl rfl s)) ?_);refine PS ?_;refine nx J6 (aj (ag (WK [] (aw rfl rfl ?_))));exact⟨by rw[Lh (show u<10 by omega)],rfl⟩;refine nx J5 (CN (qx J4 (sr λ_ J7=>PS ?_)));refine tp (PV.quo (r:=((u / 10:Nat):Int)) rfl rfl rfl (by omega) (Ku u 10 (by omega))) ?_;refine CE vh (ih (u / 10) (by omega)) ID ?_;have hla:=ol (n:=((u / 10:Nat):Int)) (rP ⟨by omega,by omega⟩);refine PS ?_;refine tp (St (r:=((u%10:Nat):Int)) rfl rfl rfl (by omega) ((BM (by omega)).trans (by omega))) ?_;refine CE vh (ih (u%10) (by omega)) ID ?_;have hlb:=ol (n:=((u%10:Nat):Int)) (rP ⟨by omega,by omega⟩);refine tp (dd (a:=Lib.itoa ((u / 10:Nat):Int)) (b:=Lib.itoa ((u%10:Nat):Int)) rfl rfl rfl (by omega)) ?_;refine PS ?_
 refine nx J7 (aj (WK [] (aw rfl rfl ?_)));exact⟨by rw[Gg (show ¬u<10 by omega)],rfl⟩
theorem AU(u:Nat)(hu:u≤9223372036854775807):DT 10 #[.int .i64 ((u:Nat):Int)] T0 [] (RI (iZ (Lib.itoa ((u:Nat):Int))) []):=by
 induction u using Nat.strongRecOn with
 |ind u ih=>exact Jn u hu λm hm=>ih m hm (by omega)
theorem Jo(u:Nat)(hu1:1≤u)(hu2:u≤9223372036854775807):
 DT 10 #[(.int .i64 ((-((u:Nat):Int))))] T0 [] (RI (iZ (Lib.itoa (-((u:Nat):Int)))) []):=by
 refine BD 23 Tryz.func10 rfl rfl rfl λw0 F hF=>sr λ_ J1=>PS ?_
 refine nx J1 (aa λ_ J2=>sr λ_ J3=>P2 ?_);refine aq ?_ ?_<;>intro h4;refine nx J3 (CY (sr λ_ J4=>PS ?_));refine tp (PV.neg (r:=((u:Nat):Int)) rfl rfl ((bY (by omega) (by omega)).trans (by omega))) ?_;refine CE vh (AU u hu2) ID ?_;have hla:=ol (n:=((u:Nat):Int)) (rP ⟨by omega,by omega⟩);refine tp (dd (a:=[45]) (b:=Lib.itoa ((u:Nat):Int)) rfl rfl rfl (by simp only[ah,ao];omega)) ?_;refine PS ?_;refine nx J4 (aj (ag (WK [] (aw rfl rfl ?_))));exact⟨by rw[Lib.itoa_neg u hu1,Lib.itoa_nonneg];rfl,rfl⟩
 · exact absurd (show-((u:Nat):Int)<0 by omega) h4
theorem gC(n:Int)(h:Dg n):DT 10 #[.int .i64 n] T0 [] (RI (iZ (Lib.itoa n)) []):=by
 by_cases h0:0≤n
 · obtain⟨u,rfl⟩:=Int.eq_ofNat_of_zero_le h0
   exact AU u (by have:=h.2;omega)
 · obtain⟨u,rfl⟩: ∃u:Nat,n= -((u:Nat):Int):=⟨n.natAbs,by omega⟩
   exact Jo u (by omega) (by have:=h.1;omega)
theorem Ee(x:Value)(l:List OpT)(hn:l.length≤100000)(hok: ∀o∈l,OkOp o):
 DT 9 #[x] (IsL 11 (EF OpT.flat) x l) [] (dA (λv H=>∃c:Nat,v= .pointer (some ⟨c,0,none⟩)∧H=[gU c (qR .new l)])):=by
 refine BD 18 Tryz.func9 rfl rfl rfl λw0 F hF=>sr λ_ J1=>PS ?_
 refine nx J1 (sr λ_ J2=>CR PK (Az) ID λvR HR hR=>?_);obtain⟨c,rfl,rfl⟩:=hR;refine PS ?_;refine nx J2 (aa λ_ J3=>sr λ_ J4=>PS ?_);refine tp (dI rfl Rc rfl hF.len) ?_;refine PS ?_;refine nx J4 (av ?_)
 refine bz (α:=(Nat)) (λk=>k≤l.length) (λk=>[(2,(.pointer none)),(3,(.pointer (some ⟨c,0,none⟩))),(7,x),(8,(.int .i64 (((l.length:Nat):Int)))),(9,(.int .i64 (((k:Nat):Int))))]) (λk=>[gU c (qR .new (l.take k))]) (λk=>l.length-k) 0
  (aO _) SB
  (λ_ s=>s) (λk hinv=>?_)
 obtain hk:=hinv;refine sr λ_ J5=>PS ?_
 refine aq ?_ ?_<;>intro h10;obtain⟨b_e,off_e,cap_e,cs_e,T_e,z_e,us_e,hv_e,hc_e,hb_e,hl_e,hs_e,hE_e⟩:=IsL.at hF (j:=k) (by omega);have hkl:k<l.length:=by omega
 obtain⟨o,ho⟩: ∃o,o=l[k]:=⟨_,rfl⟩;replace hE_e:us_e=ints l[k].flat:=hE_e;rw[←ho]at hE_e;have hoo:OkOp o:=ho▸hok _ (df ..);have hck:CLOk l.length (qR .new (l.take k)):=(BF (l.take k) new_ok (λo ho=>hok o (gj ho))).more (by rw[aZ];omega);refine nx J5 (aa λ_ J6=>CY (qx J6 (aa λ_ J7=>av (sr λ_ J8=>tp (bO (r:=off_e+k*11) hv_e rfl Rc C8 rfl rfl (by omega) (by omega) (by omega)) ?_))));refine tp (Fq (vs:=ints o.flat) rfl gk rfl C8 rfl (zO hb_e (λ_ h=>fm h)) (L3 _) (hs_e.trans hE_e)) ?_;refine XZ Sl (ints OpT.zero.flat) λb5=>?_
 refine SW 0 C8 L3 ?_;refine nx J8 (af (PS ?_));refine LW 0 gk C8 L3 ?_;refine CE RP (Lr (c:=c) (a:=qR .new (l.take k)) (o:=o) hck (by omega) hoo) (SM [1]) ?_;refine ax (ai (ae J7 (af (AD ?_))));refine PS ?_;refine ax ?_
 exact aM ((k+1):(Nat)) (by omega) (by show l.length- (k+1)<l.length-k;omega)
  SB
  (λ_ s=>by rw[Io .new l hkl,←ho];exact an [0] rfl s)
 refine nx J5 (aa λ_ J9=>CN (aX (aC (aC (bq (ae J3 (sr λ_ J10=>P2 ?_)))))));exact nx J10 (aj (aF (H':=[gU c (qR .new l)]) (dH _) (λ_ s=>by rw[show k=l.length by omega,iX]at s;exact s) (aw rfl rfl ⟨c,rfl,rfl⟩)))
theorem lj{a b:List UInt8}(h:a=b):iZ a=iZ b:=by rw[h]
theorem oH{n:Int}(h:Dg n):(Lib.itoa n).length≤21:=ol ⟨by have:=h.1;omega,h.2⟩
theorem Lv{b:Int}{k:Nat}(h:k< (jy b).length):Dg ((jy b).getD k 0):=by
 have:=xy (Hk h);exact⟨by omega,by omega⟩
theorem EK(a:CL)(k:Nat){j:Nat}(hj:j<5):Dg ((za a k).toList.getD j 0):=by
 rw[tM];exact Ia a _ _ (Hk (by rw[iP];exact hj))
theorem MZ(X Y:List UInt8)(sm:MS LD){k:Nat}(h:k< (jy sm.view.members).length):X++(Y++gO ((uR sm).take (k+2)))++([32]++Lib.itoa ((jy sm.view.members).getD k 0))=X++(Y++gO ((uR sm).take (k+1+2))):=by
 have e:=sO (uR sm) (k:=k+2) (by simp only[uR,ah];omega);rw[show k+1+2=k+2+1 from rfl,e,show(uR sm).getD (k+2) 0=(jy sm.view.members).getD k 0 from rfl];simp only[aI]
def uq(a:CL)(i:Nat):List UInt8:=match(a.at' i).run with
 |some s=>if(a.at' i).up then(mW++Lib.itoa ((i:Nat):Int)++[32,117,112])++gO (uR s)else mW++Lib.itoa ((i:Nat):Int)++[32,100,111,119,110]
 |none=>mW++Lib.itoa ((i:Nat):Int)++[32,100,111,119,110]
theorem Hw(a:CL)(i:Nat):iF a i=uq a i++[10]:=by
 have d:OP i=mW++Lib.itoa ((i:Nat):Int)++[32,100,111,119,110]++[10]:=by unfold OP mV;rw[show gO []=[]from rfl,aL]
 unfold iF uq;cases(a.at' i).run with
 |none=>exact d
 |some s=>
  cases(a.at' i).up with
  |true=>rfl
  |false=>exact d
theorem Jh{n:Nat}{a:CL}(h:TOk n a){i:Nat}(hi:i<5):(uq a i).length≤200:=by
 have:=rR h hi;rw[Hw,ac]at this;omega
theorem Gn{a:CL}{i:Nat}(h:(a.at' i).up=false):uq a i=mW++Lib.itoa ((i:Nat):Int)++[32,100,111,119,110]:=by
 unfold uq;split
 · rw[h];rfl
 · rfl
theorem OO(X:List UInt8){a:CL}{i:Nat}{sm:MS LD}(hs:(a.at' i).run=some sm)(h:(a.at' i).up=true){k:Nat}(hk:(jy sm.view.members).length≤k):X++((mW++Lib.itoa ((i:Nat):Int)++[32,117,112])++gO ((uR sm).take (k+2)))=X++uq a i:=by
 rw[az (by simp only[uR,ah];omega)];unfold uq;rw[hs,h];rfl
theorem MY(X:List UInt8)(a:CL)(k:Nat){j:Nat}(h:j<5):X++(cW++gO ((pP a k).take (j+2)))++([32]++Lib.itoa ((za a k).toList.getD j 0))=X++(cW++gO ((pP a k).take (j+1+2))):=by
 have e:=sO (pP a k) (k:=j+2) (by rw[pe];omega);rw[show j+1+2=j+2+1 from rfl,e,HD,show(((k:Nat):Int)::eN (ce a) ((k:Nat):Int)::(za a k).toList).getD (j+2) 0=(za a k).toList.getD j 0 from rfl];simp only[aI]
theorem ON(a:CL)(k:Nat){j:Nat}(h:5≤j):eM a 5++kT a k++(cW++gO ((pP a k).take (j+2)))++[10]=eM a 5++kT a (k+1):=by
 rw[az (by rw[pe];omega),pO,EO,mV];simp only[aI]
theorem tH(x:Value)(l:List OpT)(hok: ∀o∈l,OkOp o):
 DT 3 #[x] (λF=>IsL 11 (EF OpT.flat) x l F∧TabR F) [] (RI (.bool true) []):=by
 refine BD 127 Tryz.func3 rfl rfl rfl λw0 F hF=>sr λ_ J1=>PS ?_
 refine nx J1 (aa λ_ J2=>sr λ_ J3=>CF So (Gr) ID (λ_ d _=>lH hF.2 d) ?_);refine PS ?_;refine nx J3 (CN (qx J2 (aa λ_ J4=>sr λ_ J5=>PS ?_)));refine CF Sn (Gb x l) ID (λ_ d _=>IsL.more EF.more hF.1 d) ?_;refine aq ?_ ?_<;>intro h17;refine PS ?_;refine nx J5 (CN (qx J4 (sr λ_ J6=>PS ?_)));refine CQ Sm (Ee x l (by omega) hok) ID (λ_ d _=>IsL.more EF.more hF.1 d) λvR HR hR=>?_
 obtain⟨c,rfl,rfl⟩:=hR;have htk:=Mn l hok (by omega);have hdg:=Lt l hok (by omega);generalize hn:l.length=n at htk;have hn2:n≤1200:=by omega
 clear hn;generalize qR .new l=a at*;refine Sf (H':=λg:CX=>[bV c a g]) (λ_ s=>Jr s) (λg=>PS ?_);refine nx J6 (sr λ_ J7=>PS ?_);refine nx J7 (aa λ_ J8=>sr λ_ J9=>PS ?_);refine nx J9 (av ?_)
 refine bz (α:=(Nat)) (λi=>i≤5) (λi=>[(2,(.bool false)),(3,(.pointer (some ⟨c,0,none⟩))),(4,(iZ (eM a i))),(21,(.int .i64 (((i:Nat):Int))))]) (λi=>[bV c a g]) (λi=>5-i) 0
  (aO _) SB
  (λ_ s=>s) (λi hinv=>?_)
 obtain hi:=hinv;have hml:=nP htk (i:=i) (by omega);have hml5:i* (200+72*n)≤5* (200+72*n):=ig _ (by omega);refine sr λ_ J10=>PS ?_
 refine aq ?_ ?_<;>intro h22;refine nx J10 (aa λ_ J11=>CY (qx J11 (aa λ_ J12=>av (sr λ_ J13=>P2 ?_))));refine nx J13 (sr λ_ J14=>P2 ?_);refine CE vh (gC ((i:Nat):Int) ⟨by omega,by omega⟩) ID ?_;have hq1:=oH (n:=((i:Nat):Int)) ⟨by omega,by omega⟩;refine tp (dd (a:=[109,97,99,104,105,110,101,32]) (b:=Lib.itoa ((i:Nat):Int)) rfl rfl rfl (by simp only[ac,ah,ao,mW,rW,cW]at*;omega)) ?_;refine tp (dd (a:=eM a i) (b:=[109,97,99,104,105,110,101,32]++Lib.itoa ((i:Nat):Int)) rfl rfl rfl (by simp only[ac,ah,ao,mW,rW,cW]at*;omega)) ?_;refine PS ?_;refine nx J14 (aa λ_ J15=>e7 (α:=Unit) (λ_u=>True) (λ_u=>[(2,(.bool false)),(3,(.pointer (some ⟨c,0,none⟩))),(4,(iZ (eM a i++uq a i))),(5,(.int .i64 (((i:Nat):Int)))),(21,(.int .i64 (((i:Nat):Int))))]) (λ_u=>[bV c a g]) (λ_u hinv=>?_) (λtl15=>?_));have _:=hinv;refine ae J15 ?_;have hhn:=Jh htk (i:=i) (by omega);refine sr λ_ J16=>PS ?_
 refine tp (dd (a:=eM a i++uq a i) (b:=[10]) rfl rfl rfl (by simp only[ac,ah,ao,mW,rW,cW]at*;omega)) ?_;refine PS ?_;refine nx J16 (sr λ_ J17=>P2 ?_);refine CR MM (xP (i:=i) htk.ok (by omega) (by omega)) ID λvR HR hR=>?_
 obtain⟨_,h1ur,rfl,rfl⟩:=hR;revert vR;intro ur h1ur;refine iV 1 rfl rfl (λhlr _=>?_);have hrn:=htk.reps (i:=i) (by omega);refine tp (dI rfl HI rfl hlr) ?_;refine PS ?_;refine nx J17 (av ?_)
 refine bz (α:=(Nat)) (λk=>k≤(a.at' i).reps.length) (λk=>[(2,(.bool false)),(3,(.pointer (some ⟨c,0,none⟩))),(4,(iZ (eM a i++iF a i++lp ((a.at' i).reps.take k)))),(21,(.int .i64 (((i:Nat):Int)))),(68,ur),(69,(.int .i64 ((((a.at' i).reps.length:Nat):Int)))),(70,(.int .i64 (((k:Nat):Int))))]) (λk=>[bV c a g,own ur (((a.at' i).reps).length) (ints (List.flatMap ReplyT.flat ((a.at' i).reps))) 47 3]) (λk=>(a.at' i).reps.length-k) 0
  (aO _) (aS (aS (bJ rfl (lj (by rw[Hw];simp[lp])) SB)))
  (λ_ s=>s) (λk hinv=>?_)
 obtain hk:=hinv;have hrl:=rG (l:=(a.at' i).reps.take k) (λr hr=>htk.rws i r (gj hr));rw[aZ]at hrl;have hhd:(iF a i).length≤200:=rR htk (by omega);refine sr λ_ J18=>PS ?_
 refine aq ?_ ?_<;>intro h71;have hkr:k< (a.at' i).reps.length:=by omega
 obtain⟨r,hr⟩: ∃r,r=(a.at' i).reps[k]:=⟨_,rfl⟩;have hrm:r∈(a.at' i).reps:=by rw[hr];exact df hkr
 have hfr:=Er ReplyT.flat_length (a.at' i).reps hkr;rw[←hr]at hfr;refine iI 1 rfl rfl (by omega) (λgr capr hvr hcapr=>nx J18 (aa λ_ J19=>CY (qx J19 (aa λ_ J20=>av (sr λ_ J21=>tp (bO (r:=k*3) hvr rfl HI H6 rfl rfl (by omega) (by omega) (by omega)) ?_)))));refine tp (Fq (vs:=ints r.flat) rfl Ni rfl H6 rfl (fQ 1 rfl hvr rfl) (zK _) hfr) ?_;refine XZ Se (ints ReplyT.zero.flat) λb10=>?_
 refine SW 0 H6 zK ?_;refine nx J21 (D1 0 dx ?_);refine PD 0 ?_;refine FD 1 0 Ni aR ?_;refine LR 2 Y3 (ReplyT.at_op r rfl) ?_;refine FD 6 1 Ni Pi ?_;refine LR 7 Tryz.underlying45 (ReplyT.at_err r rfl) ?_;refine FD 11 2 Ni aR ?_;refine LR 12 Y3 (ReplyT.at_value r rfl) ?_;refine AL 3 ?_;refine CE vh (gC r.op (hdg.reps i r hrm).op) ID ?_;have hq2:=oH (n:=r.op) (hdg.reps i r hrm).op;refine EN (ta 4 rfl (dd (a:=[114,101,112,108,121,32]) (b:=Lib.itoa r.op) rfl rfl rfl (by simp only[ac,ah,ao,mW,rW,cW]at*;omega)) ?_);refine ta 5 rfl (dd (a:=[114,101,112,108,121,32]++Lib.itoa r.op) (b:=[32]) rfl rfl rfl (by simp only[ac,ah,ao,mW,rW,cW]at*;omega)) ?_;refine AL 8 ?_;refine CE vh (gC r.err (hdg.reps i r hrm).err) ID ?_;have hq3:=oH (n:=r.err) (hdg.reps i r hrm).err;refine EN (ta 9 rfl (dd (a:=[114,101,112,108,121,32]++Lib.itoa r.op++[32]) (b:=Lib.itoa r.err) rfl rfl rfl (by simp only[ac,ah,ao,mW,rW,cW]at*;omega)) ?_);refine ta 10 rfl (dd (a:=[114,101,112,108,121,32]++Lib.itoa r.op++[32]++Lib.itoa r.err) (b:=[32]) rfl rfl rfl (by simp only[ac,ah,ao,mW,rW,cW]at*;omega)) ?_;refine AL 13 ?_;refine CE vh (gC r.value (hdg.reps i r hrm).value) ID ?_;have hq4:=oH (n:=r.value) (hdg.reps i r hrm).value
 refine EN (ta 14 rfl (dd (a:=[114,101,112,108,121,32]++Lib.itoa r.op++[32]++Lib.itoa r.err++[32]) (b:=Lib.itoa r.value) rfl rfl rfl (by simp only[ac,ah,ao,mW,rW,cW]at*;omega)) ?_);refine ta 15 rfl (dd (a:=[114,101,112,108,121,32]++Lib.itoa r.op++[32]++Lib.itoa r.err++[32]++Lib.itoa r.value) (b:=[10]) rfl rfl rfl (by simp only[ac,ah,ao,mW,rW,cW]at*;omega)) ?_;refine ta 16 rfl (dd (a:=eM a i++iF a i++lp ((a.at' i).reps.take k)) (b:=[114,101,112,108,121,32]++Lib.itoa r.op++[32]++Lib.itoa r.err++[32]++Lib.itoa r.value++[10]) rfl rfl rfl (by simp only[ac,ah,ao,mW,rW,cW]at*;omega)) ?_;refine PD 17 ?_;refine DN (ai (ae J20 (af (AD ?_))));refine PS ?_;refine ax ?_
 exact aM ((k+1):(Nat)) (by omega) (by show(a.at' i).reps.length- (k+1)< (a.at' i).reps.length-k;omega)
  (aS (aS (bJ rfl (lj (by rw[xO (a.at' i).reps hkr,←hr];simp[Ks,mV,gO,rW,aI])) SB)))
  (λ_ s=>an [1,1] rfl s)
 refine nx J18 (aa λ_ J22=>CN (aX (aC (aC (bq (ai (ae J12 (af (AD ?_)))))))));refine PS ?_;refine ax ?_
 exact aM ((i+1):(Nat)) (by omega) (by show 5- (i+1)<5-i;omega)
  (aS (aS (bJ rfl (lj (by rw[az (by omega),qY,p1,aI])) SB)))
  (λ_ s=>an [0] rfl s)
 refine sr λ_ J23=>P2 ?_
 refine CR OE (sQ (i:=i) (by omega)) ID λvR HR hR=>?_
 rcases hR with⟨hup,rfl,rfl⟩| ⟨sm,hrun,hup,rfl,rfl⟩
 refine PS ?_;refine nx J23 (sr λ_ J24=>PS ?_);refine tp (pk rfl uG rfl rfl) ?_;refine nx J24 (CY (af (PS ?_)));refine tp (dd (a:=eM a i++([109,97,99,104,105,110,101,32]++Lib.itoa ((i:Nat):Int))) (b:=[32,100,111,119,110]) rfl rfl rfl (by simp only[ac,ah,ao,mW,rW,cW]at*;omega)) ?_;refine PS ?_;refine ax ?_
 exact aF
  (aS (aS (bJ rfl (lj (by rw[Gn hup];simp[mW,aI])) SB)))
  (λ_ s=>an [0] rfl s)
  (tl15 (():Unit) trivial)
 have hsok:=htk.run (i:=i) (by omega) hrun;refine PS ?_;refine nx J23 (sr λ_ J25=>PS ?_);refine tp (iW rfl uG rfl rfl) ?_;refine nx J25 (CN (sr λ_ J26=>P2 ?_));refine CE I0 (AB (i:=i) (by omega) hrun (lS sm (g.d i) (g.r i))) ID ?_;refine tp (y5 (cs:=ints sm.view.flat) (v:=Value.int .i64 sm.view.epoch) rfl eO rfl Y3 rfl rfl (be sm.view rfl)) ?_;refine CE vh (gC sm.view.epoch (hdg.epoch i (by omega) sm hrun)) ID ?_;have hq2:=oH (n:=sm.view.epoch) (hdg.epoch i (by omega) sm hrun);refine tp (dd (a:=[32,117,112,32]) (b:=Lib.itoa sm.view.epoch) rfl rfl rfl (by simp only[ac,ah,ao,mW,rW,cW]at*;omega)) ?_;refine tp (dd (a:=[32,117,112,32]++Lib.itoa sm.view.epoch) (b:=[32]) rfl rfl rfl (by simp only[ac,ah,ao,mW,rW,cW]at*;omega)) ?_;refine PS ?_;refine CE Qc (AB (i:=i) (by omega) hrun (Av sm (g.d i) (g.r i))) ID ?_;refine tp (y5 (cs:=ints sm.own.flat) (v:=Value.int .i64 sm.own.version) rfl ec rfl Y3 rfl rfl (cB sm.own rfl)) ?_;refine CE vh (gC sm.own.version (hdg.version i (by omega) sm hrun)) ID ?_;have hq3:=oH (n:=sm.own.version) (hdg.version i (by omega) sm hrun);refine tp (dd (a:=[32,117,112,32]++Lib.itoa sm.view.epoch++[32]) (b:=Lib.itoa sm.own.version) rfl rfl rfl (by simp only[ac,ah,ao,mW,rW,cW]at*;omega)) ?_
 refine tp (dd (a:=eM a i++([109,97,99,104,105,110,101,32]++Lib.itoa ((i:Nat):Int))) (b:=[32,117,112,32]++Lib.itoa sm.view.epoch++[32]++Lib.itoa sm.own.version) rfl rfl rfl (by simp only[ac,ah,ao,mW,rW,cW]at*;omega)) ?_;refine PS ?_;refine nx J26 (sr λ_ J27=>PS ?_);refine CE I0 (AB (i:=i) (by omega) hrun (lS sm (g.d i) (g.r i))) ID ?_;refine tp (y5 (cs:=ints sm.view.flat) (v:=Value.int .i64 sm.view.members) rfl eO rfl Y3 rfl rfl (iU sm.view rfl)) ?_;refine CR KV (mo sm.view.members) ID λvR HR hR=>?_
 obtain⟨_,rfl,rfl⟩:=hR;revert vR;intro us;refine iV 0 rfl rfl (λhlus _=>?_);have hsl:=tO sm.view.members;refine tp (dI rfl jx rfl hlus) ?_;refine PS ?_;refine nx J27 (av ?_)
 refine bz (α:=(Nat)) (λk=>k≤(jy sm.view.members).length) (λk=>[(2,(.bool false)),(3,(.pointer (some ⟨c,0,none⟩))),(4,(iZ (eM a i++((mW++Lib.itoa ((i:Nat):Int)++[32,117,112])++gO ((uR sm).take (k+2)))))),(5,(.int .i64 (((i:Nat):Int)))),(21,(.int .i64 (((i:Nat):Int)))),(52,us),(53,(.int .i64 ((((jy sm.view.members).length:Nat):Int)))),(54,(.int .i64 (((k:Nat):Int))))]) (λk=>[bV c a g,own us ((jy sm.view.members).length) (ints (jy sm.view.members)) 3 1]) (λk=>(jy sm.view.members).length-k) 0
  (aO _) (aS (aS (bJ rfl (lj (by simp[mW,gO,uR,aI])) SB)))
  (λ_ s=>an [1,0] rfl s) (λk hinv=>?_)
 obtain hk:=hinv;have hnl:=o5 ((uR sm).take (k+2)) (all64_up.take _);rw[aZ]at hnl;have hul:=wP sm;refine sr λ_ J28=>PS ?_
 refine aq ?_ ?_<;>intro h55;refine iI 1 rfl rfl (by omega) (λgs caps hvs hcaps=>nx J28 (aa λ_ J29=>CY (qx J29 (aa λ_ J30=>av (sr λ_ J31=>tp (bO (r:=k) hvs rfl jx aR rfl rfl (by omega) (by omega) (by omega)) ?_)))));refine tp (de (v:=(.int .i64 (((jy sm.view.members).getD k 0)))) rfl Y3 rfl rfl (fQ 1 rfl hvs rfl) (Hy (by omega) (by omega))) ?_;refine PS ?_;refine nx J31 (af (P2 ?_));refine CE vh (gC ((jy sm.view.members).getD k 0) (Lv (by omega))) ID ?_;have hq4:=oH (n:=((jy sm.view.members).getD k 0)) (Lv (by omega));refine tp (dd (a:=[32]) (b:=Lib.itoa ((jy sm.view.members).getD k 0)) rfl rfl rfl (by simp only[ac,ah,ao,mW,rW,cW]at*;omega)) ?_;refine tp (dd (a:=eM a i++((mW++Lib.itoa ((i:Nat):Int)++[32,117,112])++gO ((uR sm).take (k+2)))) (b:=[32]++Lib.itoa ((jy sm.view.members).getD k 0)) rfl rfl rfl (by simp only[ac,ah,ao,mW,rW,cW]at*;omega)) ?_;refine PS ?_;refine ax (ai (ae J30 (af (AD ?_))));refine PS ?_;refine ax ?_
 exact aM ((k+1):(Nat)) (by omega) (by show(jy sm.view.members).length- (k+1)< (jy sm.view.members).length-k;omega)
  (aS (aS (bJ rfl (lj (by exact MZ _ _ sm (by omega))) SB)))
  (λ_ s=>s)
 refine nx J28 (aa λ_ J32=>CN (aX (aC (aC (bq ?_)))))
 exact aF
  (aS (aS (bJ rfl (lj (by exact OO _ hrun hup (by omega))) SB)))
  (λ_ s=>an [0] rfl s)
  (tl15 (():Unit) trivial)
 refine nx J10 (aa λ_ J33=>CN (aX (aC (aC (bq (ae J8 (aa λ_ J34=>sr λ_ J35=>PS ?_)))))));refine nx J35 (av ?_)
 refine bz (α:=(Nat)) (λk=>k≤4) (λk=>[(2,(.bool false)),(3,(.pointer (some ⟨c,0,none⟩))),(4,(iZ (eM a 5++kT a k))),(93,(.int .i64 (((k:Nat):Int))))]) (λk=>[bV c a g]) (λk=>4-k) 0
  (aO _) (aS (aS (bJ rfl (lj (by rw[show i=5 by omega];exact(aL _).symm)) SB)))
  (λ_ s=>s) (λk hinv=>?_)
 obtain hk:=hinv;have hcl:=rT a (k:=k) (by omega);have hml:=nP htk (i:=5) (by omega);refine sr λ_ J36=>PS ?_
 refine aq ?_ ?_<;>intro h94;refine nx J36 (aa λ_ J37=>CY (qx J37 (aa λ_ J38=>av (sr λ_ J39=>P2 ?_))));refine nx J39 (sr λ_ J40=>P2 ?_);refine CE vh (gC ((k:Nat):Int) ⟨by omega,by omega⟩) ID ?_;have hq1:=oH (n:=((k:Nat):Int)) ⟨by omega,by omega⟩;refine tp (dd (a:=[99,111,117,110,116,101,114,32]) (b:=Lib.itoa ((k:Nat):Int)) rfl rfl rfl (by simp only[ac,ah,ao,mW,rW,cW]at*;omega)) ?_;refine tp (dd (a:=[99,111,117,110,116,101,114,32]++Lib.itoa ((k:Nat):Int)) (b:=[32]) rfl rfl rfl (by simp only[ac,ah,ao,mW,rW,cW]at*;omega)) ?_;refine PS ?_;refine CR OD (qC c n a g htk.ok) ID λvR HR hR=>?_
 obtain⟨bt,d,r,rfl,rfl⟩:=hR;refine PS ?_;refine CE OC (nW bt 0 85 (λx=>ints x.flat) Q3 (ce a) ((k:Nat):Int)) (SM [2]) ?_;refine CE vh (gC (eN (ce a) ((k:Nat):Int)) (xh (qB a) _)) ID ?_;have hq2:=oH (n:=(eN (ce a) ((k:Nat):Int))) (xh (qB a) _);refine tp (dd (a:=[99,111,117,110,116,101,114,32]++Lib.itoa ((k:Nat):Int)++[32]) (b:=Lib.itoa (eN (ce a) ((k:Nat):Int))) rfl rfl rfl (by simp only[ac,ah,ao,mW,rW,cW]at*;omega)) ?_;refine tp (dd (a:=eM a 5++kT a k) (b:=[99,111,117,110,116,101,114,32]++Lib.itoa ((k:Nat):Int)++[32]++Lib.itoa (eN (ce a) ((k:Nat):Int))) rfl rfl rfl (by simp only[ac,ah,ao,mW,rW,cW]at*;omega)) ?_;refine PS ?_;refine nx J40 (aa λ_ J41=>sr λ_ J42=>P2 ?_);refine CR PO (tL c n a g htk.ok ((k:Nat):Int)) (SM [1]) λvR HR hR=>?_
 obtain⟨_,d2,r2,hv3,rfl⟩:=hR.resolve_left (λq=>q.1 (by omega));rw[←tM]at hv3;obtain rfl:vR=(.agg (ints (za a k).toList).toArray):=hv3;refine PS ?_;refine nx J42 (av ?_)
 refine bz (α:=(Nat)) (λj=>j≤5) (λj=>[(2,(.bool false)),(3,(.pointer (some ⟨c,0,none⟩))),(4,(iZ (eM a 5++kT a k++(cW++gO ((pP a k).take (j+2)))))),(93,(.int .i64 (((k:Nat):Int)))),(110,(.agg (ints (za a k).toList).toArray)),(111,(.int .i64 (((j:Nat):Int))))]) (λj=>[bV c a g]) (λj=>5-j) 0
  (aO _) (aS (aS (bJ rfl (lj (by simp[cW,gO,pP,aI])) SB)))
  (λ_ s=>an [0] rfl s) (λj hinv=>?_)
 obtain hj:=hinv;have hnl:=o5 ((pP a k).take (j+2)) ((vB a (by omega)).take _);rw[aZ,pe]at hnl;refine sr λ_ J43=>PS ?_
 refine aq ?_ ?_<;>intro h112;refine nx J43 (aa λ_ J44=>CY (qx J44 (aa λ_ J45=>av (sr λ_ J46=>tp (mM (cs:=ints (za a k).toList) (v:=(.int .i64 ((za a k).toList.getD j 0))) (r:=j) rfl ke Y3 rfl aR rfl rfl (by omega) (by omega) (by omega) (Hy rfl (by rw[aB];omega))) ?_))));refine PS ?_;refine nx J46 (af (P2 ?_));refine CE vh (gC ((za a k).toList.getD j 0) (EK a k (by omega))) ID ?_;have hq3:=oH (n:=((za a k).toList.getD j 0)) (EK a k (by omega));refine tp (dd (a:=[32]) (b:=Lib.itoa ((za a k).toList.getD j 0)) rfl rfl rfl (by simp only[ac,ah,ao,mW,rW,cW]at*;omega)) ?_;refine tp (dd (a:=eM a 5++kT a k++(cW++gO ((pP a k).take (j+2)))) (b:=[32]++Lib.itoa ((za a k).toList.getD j 0)) rfl rfl rfl (by simp only[ac,ah,ao,mW,rW,cW]at*;omega)) ?_;refine PS ?_;refine ax (ai (ae J45 (af (AD ?_))));refine PS ?_;refine ax ?_
 exact aM ((j+1):(Nat)) (by omega) (by show 5- (j+1)<5-j;omega)
  (aS (aS (bJ rfl (lj (by exact MY _ a k (by omega))) SB)))
  (λ_ s=>s)
 refine nx J43 (aa λ_ J47=>CN (aX (aC (aC (bq (ae J41 (af (PS ?_))))))));refine tp (dd (a:=eM a 5++kT a k++(cW++gO ((pP a k).take (j+2)))) (b:=[10]) rfl rfl rfl (by simp only[ac,ah,ao,mW,rW,cW]at*;omega)) ?_;refine PS ?_;refine ax (ai (ae J38 (af (AD ?_))));refine PS ?_;refine ax ?_
 exact aM ((k+1):(Nat)) (by omega) (by show 4- (k+1)<4-k;omega)
  (aS (aS (bJ rfl (lj (by exact ON a k (by omega))) SB)))
  (λ_ s=>s)
 refine nx J36 (aa λ_ J48=>CN (aX (aC (aC (bq (ae J34 (sr λ_ J49=>PS ?_)))))));refine CF PM (qE c a g n htk hn2) ID (λ_ d _=>lH hF.2 d) ?_;refine PS ?_;refine tp (PV.strEql (a:=oT a) (b:=eM a 5++kT a k) rfl rfl rfl) ?_;refine PS ?_;refine nx J49 (aj (WK [] (aw rfl rfl ?_)));exact⟨congrArg Value.bool (decide_eq_true (by rw[show k=4 by omega];rfl)),rfl⟩;refine PS ?_;refine nx J5 (CY (sr λ_ J50=>PS ?_));refine nx J50 (aj (ag (WK [] (aw rfl rfl ?_))));exact⟨by simp,rfl⟩
theorem tellClusters_row(x:Value)(l:List OpT):DT 3 #[x] (λF=>IsL 11 (EW OpT.flat) x l F∧TabR F) [] (RI (.bool true) []):=λw F r m=>tH x l (Oh r.1) w F ⟨(N0 r.1).1,r.2⟩ m
end Go.Proofs.YtfocodjhmkokpaaGreatDoor
end

section
namespace Api
open Go Leg Codec Wal
theorem OpT.of(l:List Int)(h:l.length=11): ∃x:OpT,x.flat=l:=by
 match l,h with
 | [a,b,c,d,e,f,g,i,j,k,m],_=>exact⟨⟨a,b,c,d,e,⟨f,g,i⟩,j,k,m⟩,rfl⟩
end Api
end

section
namespace Go.Proofs.YtfocodjhmkokpaaGreatDoor
open Go Leg
theorem Oa:(Rows.laid_internal_strconv_uint64pow10:DataW Unit)=Lib.tabData .u64 Lib.pow10Tab:=by kernel_rfl
theorem tabL{W:World}(hL:laidMetH Tryz.prog Rows.tellRunsRow.laid W):TabR (hp W):=by
 have hL := (laidMetH_iff.1 hL).1;have h2 : laidMet Tryz.prog [("internal/strconv.uint64pow10", Rows.laid_internal_strconv_uint64pow10)] W := laidMet.tail (laidMet.tail hL);rw [Oa] at h2;exact TabR.of (Lib.tabIs_of_head (g := 0) (by kernel_rfl) (by kernel_rfl) Tryz.underlying260 Nj (by kernel_rfl) (by kernel_rfl) h2)
end Go.Proofs.YtfocodjhmkokpaaGreatDoor
end
