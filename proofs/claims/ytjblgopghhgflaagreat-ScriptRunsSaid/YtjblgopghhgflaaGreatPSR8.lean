/-
  Joined texts:what a statement's proof reaches.
-/
import Derived.Test.YtjblgopghhgflaaGreatPSR7
set_option maxHeartbeats 8000000
set_option maxRecDepth 100000
set_option linter.unusedSimpArgs false
set_option linter.unusedVariables false
section
namespace Api
open Go Leg Codec Dsk Wal
def Sml(n:Int):Prop:=0≤n∧n≤20
theorem Sml.inr{n:Int}(h:Sml n):qC n:=⟨by have:=h.1;omega,by have:=h.2;omega⟩
abbrev Mq:= @Sml.inr
theorem n0{k:Int}(h:decide (0≤k∧k≤20)=true):Sml k:=by
 have:0≤k∧k≤20:=of_decide_eq_true h;exact this
theorem Fy(v:ViewT)(c:ChangeT):Sml (dx v c).2:=by
 unfold dx
 repeat' split
 all_goals exact n0 rfl
theorem DR(D:DS)(at':Int)(bs:List UInt8):Sml (D.write at' bs).1:=by
 unfold DS.write
 repeat' split
 all_goals exact n0 rfl
theorem uy: ∀(ss:List ji) (at':Int) (D:DS),Sml (fQ ss at' D).1
 | [],_,_=>n0 rfl
 |s::ss,at',D=>by
  rw[fQ];split
  · exact uy ss _ _
  · exact DR _ _ _
theorem CC(e:LD)(bs:List UInt8):Sml (e.put bs).2:=by
 unfold LD.put m7 DS.sync;simp only
 repeat' split
 all_goals first|exact n0 rfl|exact uy _ _ _
theorem Fz(x:RowT)(key n k:Int)(c:CellT):Sml (j6 x key n k c).2:=by
 unfold j6;split<;>exact n0 rfl
theorem FB(x:RepT)(o:OpT):Sml (fW x o).2:=by
 unfold fW nH nI kx
 repeat' split
 all_goals first|exact n0 rfl|exact Fz _ _ _ _ _
theorem Fx(x:RepT)(o:OpT):Sml (ia x o).2.2:=by
 unfold ia
 repeat' split
 all_goals first|exact n0 rfl|exact FB _ _
theorem Gn(b:BookT)(key:Int):qC (pD b key):=by
 unfold pD;rw[show pw b key 5=_ from qO b key 4];exact kr _
theorem Gm(x:RepT)(o:OpT):qC (ia x o).2.1:=by
 unfold ia
 repeat' split
 all_goals first|exact Mq (n0 rfl)|exact Gn _ _
structure RW(r:ReplyT):Prop where
 op:qC r.op
 err:qC r.err
 value:qC r.value
theorem RW.wf{r:ReplyT}(h:RW r):WF r.flat:=λn hn=>by
 simp only[ReplyT.flat,cf,List.not_mem_nil,or_false]at hn;rcases hn with rfl|rfl|rfl
 · exact mw h.op
 · exact mw h.err
 · exact mw h.value
theorem EY(s:MS LD)(o:OpT): ∀r∈(bO KD s o).1.replies,r∈s.replies∨RW r:=by
 have rep: ∀(t u:MS LD) (op e v:Int),t.replies=s.replies→qC op→qC e→qC v→u.replies=(db t op e v).replies→∀r∈u.replies,r∈s.replies∨RW r:=λt u op e v ht h1 h2 h3 hu r hr=>by
  rw[hu]at hr;have hr:r∈t.replies++[⟨op,e,v⟩]:=hr;rcases cq.1 hr with hr|hr
  · rw[ht]at hr;exact .inl hr
  · rw[c8]at hr;subst hr;exact .inr ⟨h1,h2,h3⟩
 have z:qC 0:=Mq (n0 rfl);have ho:qC (bq s).ops:=kr _
 have hb:Sml (ck KD (bq s) o.change).2:=by
  unfold ck
  repeat' split
  all_goals first|exact n0 rfl|exact CC _ _
 unfold bO;split
 · unfold dI
   split
   · refine rep (bq s) _ _ _ 0 rfl ho (Mq ?_) z rfl
     unfold fg;split
     · exact n0 rfl
     · exact Fy _ _
   · have q:Qt (bq s) (ck KD (bq s) o.change).1:=inferInstance
     split
     · exact rep (ck KD (bq s) o.change).1 _ _ _ 0 q.replies ho hb.inr z rfl
     · have q2:Qt (db (ck KD (bq s) o.change).1 (bq s).ops 0 0) (m8 KD (db (ck KD (bq s) o.change).1 (bq s).ops 0 0) (iV (bq s).view (ei (bq s)) o.change)):=inferInstance
       exact rep (ck KD (bq s) o.change).1 _ _ 0 0 q.replies ho z z q2.replies
 · unfold mS
   split
   · exact rep (bq s) _ _ _ _ rfl ho (Fx _ _).inr (Gm _ _) rfl
   · have hg:Sml (eA KD (bq s) (cV (bq s) o).1 (bq s).ops).2:=by
      unfold eA;split
      · exact CC _ _
      · exact n0 rfl
     rcases Df (K:=KD) (bq s) (cV (bq s) o).1 (bq s).ops with⟨h,q⟩| ⟨h,q,_⟩
     · rw[if_pos h]
       exact rep (eA KD (bq s) (cV (bq s) o).1 (bq s).ops).1 _ _ _ 0 q.replies ho hg.inr z rfl
     · rw[if_neg (by omega)]
       intro r hr;rw[q.replies,aT]at hr;exact .inl hr
def Iz(a:CL):Prop:=∀i,∀r∈(a.at' i).reps,RW r
theorem Hu:Iz CL.new:=λi r hr=>by
 by_cases hi:i<5
 · have e:CL.new.at' i=lH i:=by simp[CL.new,CL.at',List.getD_eq_getElem?_getD,hi]
   rw[e]at hr;unfold lH gA at hr;have hr:r∈(Slot.mk (dM i Slot.nil.D).1 (bJ Slot.nil.D).D []).reps:=hr;cases hs:(dM i Slot.nil.D).1 with
   |none=>rw[hs]at hr;unfold Slot.reps at hr;simp at hr
   |some s=>
    rw[hs]at hr;obtain⟨_,hr'⟩:=jK hs;have f:=rR _ (A9 _ _) hr';unfold Slot.reps at hr;simp[f.replies]at hr
 · have e:CL.new.at' i= .nil:=by
    unfold CL.at' CL.new;rw[List.getD_eq_getElem?_getD,List.getElem?_eq_none (by rw[bH,nu];omega),Option.getD_none]
   rw[e]at hr;unfold Slot.reps Slot.nil at hr;simp at hr
theorem I6{n m:Nat}{a:CL}(h:CLOk n a)(g:RepsOk m a)(hm:m≤1000000)(hw:Iz a)(o:OpT):Iz (xK a o).1:=by
 have did: ∀{i:Nat} {s t:MS LD} {W:List (List MsgT)},i<5→(a.at' i).run=some s→(∀r∈t.replies,r∈s.replies∨RW r)→Iz ⟨a.ms.set i {a.at' i with run:=some t.hush},W⟩:=λ {i s t W} hi hs ht j r hr=>by
  rw[CL.set_at (by rw[h.ms];exact hi)]at hr;split at hr
  · rw[oQ (x:= {a.at' i with run:=some t.hush}) rfl]at hr
    have hsl: ∀r∈(a.at' i).past++s.replies,RW r:=λr hr=>hw i r (by rw[oQ hs];exact hr)
    rcases cq.1 hr with hr|hr
    · exact hsl r (List.mem_append_left _ hr)
    · rcases ht r hr with hr|hr
      · exact hsl r (My _ hr)
      · exact hr
  · exact hw j r hr
 have put: ∀{i:Nat} {x:Slot},i<5→x.reps=(a.at' i).reps→Iz (a.set i x):=λ {i x} hi hx j r hr=>by
  have hr:r∈((CL.mk (a.ms.set i x) a.W).at' j).reps:=hr;rw[CL.set_at (by rw[h.ms];exact hi)]at hr;split at hr
  · rw[hx]at hr;exact hw i r hr
  · exact hw j r hr
 unfold xK
 by_cases hm':gp o.at'=false
 · rw[if_pos hm'];exact hw
 rw[if_neg hm'];obtain⟨hi,_⟩:=kQ (show gp o.at'=true by simpa using hm');split
 · unfold AQ
   split
   · exact hw
   · rename_i s hs
     split
     · exact hw
     · exact did hi hs (EY s o)
 split
 · unfold nz
   split
   · exact hw
   split
   · exact hw
   split
   · split
     · exact hw
     · exact hw
   split
   · exact hw
   split
   · exact hw
   · rename_i m' l _ _
     unfold rE;split
     · exact hw
     · rename_i s hs
       split
       · exact hw
       · split
         · have hs':(a.at' o.to'.toNat).run=some s:=hs
           by_cases ht:o.to'.toNat<5
           · refine did (W:=gh (a.W.set (bp o.at' o.to') l) o.to'.toNat _) ht hs' λr hr=>?_
             rcases yf (K:=KD) s ((o.at'.toNat:Nat):Int) (ik (dC m')).1 with q| ⟨hw',q,_,_⟩
             · rw[q.replies]at hr;exact .inl hr
             · rw[q.replies]at hr
               rcases cq.1 hr with hr|hr
               · exact .inl hr
               · rw[c8]at hr;subst hr
                 have h1:=(g.ok _ s hs').w hw';have h2:=(g.ok _ s hs').ops;exact .inr ⟨⟨by show-9223372036854775808≤s.waits;omega,by show s.waits<9223372036854775808;omega⟩,Mq ⟨Int.le_refl _,by show(0:Int)≤20;omega⟩,Mq ⟨Int.le_refl _,by show(0:Int)≤20;omega⟩⟩
           · intro j r hr
             unfold CL.did at hr;rw[show((a.way (bp o.at' o.to') l).ms.set o.to'.toNat _)=a.ms from mn (by show a.ms.length≤_;rw[h.ms];omega)]at hr;exact hw j r hr
         · exact hw
 split
 · unfold zu
   split
   · exact hw
   · rename_i s hs
     split
     · exact hw
     · refine did (W:=gh a.W o.at'.toNat _) hi hs λr hr=>?_
       have q:Qt s (gU KD s):=inferInstance;rw[q.replies]at hr;exact .inl hr
 split
 · refine put hi ?_
   unfold tB;split
   · rename_i s hs
     rw[oQ hs,oQ (x:= {a.at' o.at'.toNat with run:=some (s.dsk (s.e.D.arm o.n))}) rfl];rfl
   · rename_i hs
     rw[m5 hs];exact m5 hs
 split
 · exact put hi (m5 rfl)
 split
 · refine put hi ?_
   unfold gA;split
   · rfl
   · rename_i hs
     rw[m5 hs];cases hd:(dM o.at'.toNat (a.at' o.at'.toNat).D).1 with
     |none=>exact m5 rfl
     |some s=>
      obtain⟨_,hr⟩:=jK hd;have f:=rR _ (A9 _ _) hr;show(Slot.mk (some s) _ (a.at' o.at'.toNat).past).reps=_;rw[oQ (x:=Slot.mk (some s) _ (a.at' o.at'.toNat).past) rfl,f.replies,aT]
 · exact hw
theorem CI: ∀(l:List OpT) {n m:Nat} {a:CL},CLOk n a→RepsOk m a→Iz a→(∀o∈l,OkOp o)→m+l.length≤1000000→Iz (eh a l)
 | [],_,_,_,_,_,hw,_,_=>hw
 |o::l,n,m,a,h,g,hw,ho,hl=>by
  rw[aw]at hl;exact CI l (It h (ho o (gZ ..))) (EV h g (by omega) o) (I6 h g (by omega) hw o) (λx hx=>ho x (pp _ hx)) (by omega)
def EW{α:Type}(f:α→List Int)(us:List Value)(x:α)(_:Hl):Prop:=us=ints (f x)∧WF (f x)
theorem Ir{α:Type}{f:α→List Int}{m:Nat}{v:Value}{l:List α}{F:Hl}(h:IsL m (EW f) v l F):IsL m (EF f) v l F∧∀o∈l,WF (f o):=by
 rcases h with⟨rfl,rfl⟩| ⟨a,c,rfl,rfl⟩| ⟨b,off,cap,cs,T,z,rfl,h1,h2,h3,h4⟩
 · exact⟨.inl ⟨rfl,rfl⟩,λo ho=>by cases ho⟩
 · exact⟨.inr (.inl ⟨a,c,rfl,rfl⟩),λo ho=>by cases ho⟩
 · refine⟨.inr (.inr ⟨b,off,cap,cs,T,z,rfl,h1,h2,h3,λj hj=>?_⟩),λo ho=>?_⟩
   · obtain⟨us,e1,e2,e3⟩:=h4 j hj
     exact⟨us,e1,e2,e3.1⟩
   · obtain⟨j,hj,rfl⟩:=eW ho
     obtain⟨us,e1,e2,e3⟩:=h4 j hj;exact e3.2
theorem Hp{o:OpT}(h:WF o.flat):OkOp o:=by
 refine⟨⟨λn hn=>h n ?_⟩,?_⟩
 · simp only[OpT.flat,cq,cf,List.not_mem_nil,or_false]
   simp[hn]
 · have:=zk (h o.n (by simp[OpT.flat]))
   omega
theorem IL{x:Value}{l:List OpT}{F:Hl}(h:IsL 11 (EW OpT.flat) x l F): ∀o∈l,OkOp o:=λo ho=>Hp ((Ir h).2 o ho)
section
variable {A m:List ReplyT} {e:Int}
end
end Api
end

section
namespace Go.Proofs.YtjblgopghhgflaaGreat
open Go Leg Codec Api Dsk Wal
theorem vm(x:Value)(l:List OpT):
 DT 13 #[x] (IsL 11 (EF OpT.flat) x l) [] (RI (.bool (decide (((l.length:Nat):Int)≤1200))) []):=by
 refine BD 6 Tryz.func13 rfl rfl rfl λw0 F hF=>sr λ_ J1=>PS ?_
 refine nx J1 (sr λ_ J2=>PS ?_);refine tp (cY rfl E9 rfl hF.len) ?_;refine P2 ?_;exact nx J2 (ai (WK [] (ap rfl rfl ⟨rfl,rfl⟩)))
end Go.Proofs.YtjblgopghhgflaaGreat
end

section
namespace Api
open Go Leg Codec Wal
theorem Jb: ∀b:Fin 256,pH .u8 ((b.val:Nat):Int) 15=((b.val%16:Nat):Int):=by decide+kernel
theorem Jz: ∀b:Fin 256,((b.val:Nat):Int).fdiv (2^min (4:Int).toNat IntKind.u8.bits)=((b.val / 16:Nat):Int):=by decide+kernel
def jG(b:UInt8):Int:=((b.toNat%16:Nat):Int)
def jQ(b:UInt8):Int:=((b.toNat / 16:Nat):Int)
def n8(b:UInt8):Int:=((b.toNat:Nat):Int)
def iI(b0 b1 b2 b3 b4:UInt8):OpT:=
 if jG b0=4 then⟨jG b0,jQ b0,jG b1,jQ b1,n8 b2,⟨jG b3,jQ b3,n8 b4⟩,0,0,0⟩
 else if jG b0=10 then⟨jG b0,jQ b0,jG b1,jQ b1,n8 b2, .zero,n8 b3,n8 b4-1,n8 b2⟩
 else⟨jG b0,jQ b0,jG b1,jQ b1,n8 b2, .zero,0,0,0⟩
def wy:List UInt8→List OpT
 |b0::b1::b2::b3::b4::r=>iI b0 b1 b2 b3 b4::wy r
 |_=>[]
theorem sv{r:List UInt8}(h:5≤r.length):wy r=iI (r.getD 0 0) (r.getD 1 0) (r.getD 2 0) (r.getD 3 0) (r.getD 4 0)::wy (r.drop 5):=by
 match r,h with
 |b0::b1::b2::b3::b4::r,_=>rfl
theorem Et{r:List UInt8}(h:r.length<5):wy r=[]:=by
 match r,h with
 | [],_| [_],_| [_,_],_| [_,_,_],_| [_,_,_,_],_=>rfl
theorem Io(b:UInt8):0≤n8 b∧n8 b<256:=by unfold n8;have:=b.toNat_lt;omega
theorem OpT.flat_length(o:OpT):o.flat.length=11:=by simp[OpT.flat,ChangeT.flat]
theorem OpT.of(l:List Int)(h:l.length=11): ∃x:OpT,x.flat=l:=by
 match l,h with
 | [a,b,c,d,e,f,g,i,j,k,m],_=>exact⟨⟨a,b,c,d,e,⟨f,g,i⟩,j,k,m⟩,rfl⟩
end Api
end

section
namespace Go.Proofs.YtjblgopghhgflaaGreat
open Go Leg Codec Api Dsk Wal
theorem GJ(b:UInt8):pH .u8 (((b.toNat:Nat):Nat):Int) 15=(((b.toNat%16:Nat):Nat):Int):=Jb ⟨b.toNat,b.toNat_lt⟩
theorem IG(b:UInt8):(((b.toNat:Nat):Nat):Int).fdiv (2^min (4:Int).toNat IntKind.u8.bits)=(((b.toNat / 16:Nat):Nat):Int):=Jz ⟨b.toNat,b.toNat_lt⟩
theorem vj(b:UInt8):IntKind.i64.wrap (((b.toNat%16:Nat):Nat):Int)=jG b:=by unfold jG;exact bC (by omega) (by omega)
theorem vv(b:UInt8):IntKind.i64.wrap (((b.toNat / 16:Nat):Nat):Int)=jQ b:=by unfold jQ;have:=b.toNat_lt;exact bC (by omega) (by omega)
theorem tK(b:UInt8):IntKind.i64.wrap (((b.toNat:Nat):Nat):Int)=n8 b:=by unfold n8;have:=b.toNat_lt;exact bC (by omega) (by omega)
theorem vJ{v:Value}{k:Nat}(h:v.oneCell'=true):(tA v k).oneCell'=true:=by
 unfold tA;split
 · rfl
 · exact h
theorem u7(x:Value)(bs:List UInt8)(hl:bs.length≤1000000):
 DT 65 #[x] (IsB x bs) [] (dG (λr' H=>∃u,r'=u∧H=[own u ((wy bs).length) (ints (List.flatMap OpT.flat (wy bs))) 30 11])):=by
 refine BD 76 Tryz.func65 rfl rfl rfl λw0 F hF=>sr λ_ J1=>PS ?_
 refine nx J1 (sr λ_ J2=>PS ?_);refine nx J2 (aa λ_ J3=>aq ?_)
 refine bF (α:=(List UInt8)×(Value)×(List OpT)×(Value)) (λ⟨r,xv,done,u⟩=>IsB xv r F∧r.length≤1000000∧done.length+r.length / 5≤1000000∧wy bs=done++wy r∧xv.oneCell'=true∧u.oneCell'=true) (λ⟨r,xv,done,u⟩=>[(0,xv),(2,(.slice none 0 0)),(3,u)]) (λ⟨r,xv,done,u⟩=>[own u (done.length) (ints (List.flatMap OpT.flat done)) 30 11]) (λ⟨r,xv,done,u⟩=>r.length) (bs,x,[],(.slice none 0 0))
  ⟨hF,hl,by simp;omega,rfl,hF.one,rfl⟩ SB
  (λ_ s=>fJ 30 11 s) (λ⟨r,xv,done,u⟩ hinv=>?_)
 obtain⟨hB,hr,hd,ho,hx,hu⟩:=hinv;have hU:IsW xv r F:=GT hB;have hUl:=hB.len;refine aa λ_ J4=>sr λ_ J5=>PS ?_
 refine tp (cY rfl fq rfl hUl) ?_;refine PS ?_;refine ao ?_ ?_<;>intro h7;obtain⟨b_b,off_b,cap_b,cs_b,T_b,z_b,hv_b,hb_b,hcs_b,hcp_b⟩:=IsW.at hU (j:=0) (by omega);have hlt_b:=IsW.lt hU;refine nx J5 (CY (qx J4 (aa λ_ J6=>aq (aa λ_ J7=>D0 bc ?_))));refine PD 0 ?_;refine ta 1 rfl (a8 (r:=off_b) hv_b rfl fq jh rfl rfl (by omega) (by omega) (by omega)) ?_;refine ta 2 rfl (bT (v:=(.int .u8 (((((r).getD 0 0).toNat:Nat):Int)))) rfl Y5 rfl rfl (iL hb_b (λ_ h=>h.1)) (hcs_b 0 (by omega))) ?_;refine ta 3 rfl (om (r:=((((r.getD 0 0).toNat%16:Nat):Nat):Int)) rfl rfl rfl (GJ _)) ?_;refine ta 4 rfl (cx (r:=(jG (r.getD 0 0))) rfl Y5 Y3 rfl (vj _)) ?_;refine PD 5 ?_;refine ta 6 rfl (a8 (r:=off_b) hv_b rfl fq jh rfl rfl (by omega) (by omega) (by omega)) ?_;refine ta 7 rfl (bT (v:=(.int .u8 (((((r).getD 0 0).toNat:Nat):Int)))) rfl Y5 rfl rfl (iL hb_b (λ_ h=>h.1)) (hcs_b 0 (by omega))) ?_;refine ta 8 rfl (jt (r:=((((r.getD 0 0).toNat / 16:Nat):Nat):Int)) rfl rfl rfl (by omega) (IG _)) ?_;refine ta 9 rfl (cx (r:=(jQ (r.getD 0 0))) rfl Y5 Y3 rfl (vv _)) ?_;refine PD 10 ?_;refine ta 11 rfl (a8 (r:=off_b+1) hv_b rfl fq jh rfl rfl (by omega) (by omega) (by omega)) ?_;refine ta 12 rfl (bT (v:=(.int .u8 (((((r).getD 1 0).toNat:Nat):Int)))) rfl Y5 rfl rfl (iL hb_b (λ_ h=>h.1)) (hcs_b 1 (by omega))) ?_;refine ta 13 rfl (om (r:=((((r.getD 1 0).toNat%16:Nat):Nat):Int)) rfl rfl rfl (GJ _)) ?_
 refine ta 14 rfl (cx (r:=(jG (r.getD 1 0))) rfl Y5 Y3 rfl (vj _)) ?_;refine PD 15 ?_;refine ta 16 rfl (a8 (r:=off_b+1) hv_b rfl fq jh rfl rfl (by omega) (by omega) (by omega)) ?_;refine ta 17 rfl (bT (v:=(.int .u8 (((((r).getD 1 0).toNat:Nat):Int)))) rfl Y5 rfl rfl (iL hb_b (λ_ h=>h.1)) (hcs_b 1 (by omega))) ?_;refine ta 18 rfl (jt (r:=((((r.getD 1 0).toNat / 16:Nat):Nat):Int)) rfl rfl rfl (by omega) (IG _)) ?_;refine ta 19 rfl (cx (r:=(jQ (r.getD 1 0))) rfl Y5 Y3 rfl (vv _)) ?_;refine PD 20 ?_;refine ta 21 rfl (a8 (r:=off_b+2) hv_b rfl fq jh rfl rfl (by omega) (by omega) (by omega)) ?_;refine ta 22 rfl (bT (v:=(.int .u8 (((((r).getD 2 0).toNat:Nat):Int)))) rfl Y5 rfl rfl (iL hb_b (λ_ h=>h.1)) (hcs_b 2 (by omega))) ?_;refine ta 23 rfl (cx (r:=(n8 (r.getD 2 0))) rfl Y5 Y3 rfl (tK _)) ?_;refine ta 24 rfl (kq OpT.zero (OpT.mk (jG (r.getD 0 0)) (jQ (r.getD 0 0)) (jG (r.getD 1 0)) (jQ (r.getD 1 0)) (n8 (r.getD 2 0)) ChangeT.zero 0 0 0) [(0,[Value.int .i64 (jG (r.getD 0 0))]),(1,[Value.int .i64 (jQ (r.getD 0 0))]),(2,[Value.int .i64 (jG (r.getD 1 0))]),(3,[Value.int .i64 (jQ (r.getD 1 0))]),(4,[Value.int .i64 (n8 (r.getD 2 0))])] eV k0 (g:=OpT.sg)) ?_;refine AL 25 ?_;refine XZ Lo (ints OpT.zero.flat) λb4=>?_
 refine EN (AL 26 ?_);refine SW 0 oH fG ?_;refine EN (DN (ac J7 (aa λ_ J8=>sr λ_ J9=>FA 0 eV aM ?_)));refine LT 0 Y3 (.int .i64 ((jG (r.getD 0 0)))) ?_ (hc:=by exact cF _ rfl);refine nx J9 (aq (sr λ_ J10=>PS ?_));refine ao ?_ ?_<;>intro h38;refine PS ?_;refine nx J10 (CY (D0 bc ?_));refine PD 0 ?_;refine ta 1 rfl (a8 (r:=off_b+3) hv_b rfl fq jh rfl rfl (by omega) (by omega) (by omega)) ?_;refine ta 2 rfl (bT (v:=(.int .u8 (((((r).getD 3 0).toNat:Nat):Int)))) rfl Y5 rfl rfl (iL hb_b (λ_ h=>h.1)) (hcs_b 3 (by omega))) ?_;refine ta 3 rfl (om (r:=((((r.getD 3 0).toNat%16:Nat):Nat):Int)) rfl rfl rfl (GJ _)) ?_;refine ta 4 rfl (cx (r:=(jG (r.getD 3 0))) rfl Y5 Y3 rfl (vj _)) ?_;refine PD 5 ?_;refine ta 6 rfl (a8 (r:=off_b+3) hv_b rfl fq jh rfl rfl (by omega) (by omega) (by omega)) ?_;refine ta 7 rfl (bT (v:=(.int .u8 (((((r).getD 3 0).toNat:Nat):Int)))) rfl Y5 rfl rfl (iL hb_b (λ_ h=>h.1)) (hcs_b 3 (by omega))) ?_;refine ta 8 rfl (jt (r:=((((r.getD 3 0).toNat / 16:Nat):Nat):Int)) rfl rfl rfl (by omega) (IG _)) ?_;refine ta 9 rfl (cx (r:=(jQ (r.getD 3 0))) rfl Y5 Y3 rfl (vv _)) ?_;refine PD 10 ?_;refine ta 11 rfl (a8 (r:=off_b+4) hv_b rfl fq jh rfl rfl (by omega) (by omega) (by omega)) ?_;refine ta 12 rfl (bT (v:=(.int .u8 (((((r).getD 4 0).toNat:Nat):Int)))) rfl Y5 rfl rfl (iL hb_b (λ_ h=>h.1)) (hcs_b 4 (by omega))) ?_;refine ta 13 rfl (cx (r:=(n8 (r.getD 4 0))) rfl Y5 Y3 rfl (tK _)) ?_
 refine ta 14 rfl (kq ChangeT.zero (ChangeT.mk (jG (r.getD 3 0)) (jQ (r.getD 3 0)) (n8 (r.getD 4 0))) [(0,[Value.int .i64 (jG (r.getD 3 0))]),(1,[Value.int .i64 (jQ (r.getD 3 0))]),(2,[Value.int .i64 (n8 (r.getD 4 0))])] mj Ff (g:=ChangeT.sg)) ?_;refine FD 15 5 eV e9 ?_;refine AL 16 ?_;refine SP 0 e9 aI fG OpT.wp_change ?_;refine EN (DN (ag (ac J8 (ae ?_))));have hop:(OpT.mk (jG (r.getD 0 0)) (jQ (r.getD 0 0)) (jG (r.getD 1 0)) (jQ (r.getD 1 0)) (n8 (r.getD 2 0)) (ChangeT.mk (jG (r.getD 3 0)) (jQ (r.getD 3 0)) (n8 (r.getD 4 0))) 0 0 0)=iI (r.getD 0 0) (r.getD 1 0) (r.getD 2 0) (r.getD 3 0) (r.getD 4 0):=by first| (rw[iI,if_pos h38];try rfl)| (rw[iI,if_neg h38,if_pos h56];try rfl)| (rw[iI,if_neg h38,if_neg h56];try rfl)
 refine PS ?_;refine LW 0 eV oH fG ?_;refine aP (cells:=(ints (OpT.mk (jG (r.getD 0 0)) (jQ (r.getD 0 0)) (jG (r.getD 1 0)) (jQ (r.getD 1 0)) (n8 (r.getD 2 0)) (ChangeT.mk (jG (r.getD 3 0)) (jQ (r.getD 3 0)) (n8 (r.getD 4 0))) 0 0 0).flat).toArray) (ab rfl) rfl rfl rfl E9 EM rfl rfl rfl (jA (fG (OpT.mk (jG (r.getD 0 0)) (jQ (r.getD 0 0)) (jG (r.getD 1 0)) (jQ (r.getD 1 0)) (n8 (r.getD 2 0)) (ChangeT.mk (jG (r.getD 3 0)) (jQ (r.getD 3 0)) (n8 (r.getD 4 0))) 0 0 0)) (by simp)) (λb73=>?_);change TL _ _ _ _ _ _ _ _ _ [ak b73 (ints (OpT.mk (jG (r.getD 0 0)) (jQ (r.getD 0 0)) (jG (r.getD 1 0)) (jQ (r.getD 1 0)) (n8 (r.getD 2 0)) (ChangeT.mk (jG (r.getD 3 0)) (jQ (r.getD 3 0)) (n8 (r.getD 4 0))) 0 0 0).flat) 30,ak b4 (ints (OpT.mk (jG (r.getD 0 0)) (jQ (r.getD 0 0)) (jG (r.getD 1 0)) (jQ (r.getD 1 0)) (n8 (r.getD 2 0)) (ChangeT.mk (jG (r.getD 3 0)) (jQ (r.getD 3 0)) (n8 (r.getD 4 0))) 0 0 0).flat) 30,own u (done.length) (ints (List.flatMap OpT.flat done)) 30 11]
 refine co (k:=2) (news:=ints (OpT.mk (jG (r.getD 0 0)) (jQ (r.getD 0 0)) (jG (r.getD 1 0)) (jQ (r.getD 1 0)) (n8 (r.getD 2 0)) (ChangeT.mk (jG (r.getD 3 0)) (jQ (r.getD 3 0)) (n8 (r.getD 4 0))) 0 0 0).flat) (nn':=(done++[iI (r.getD 0 0) (r.getD 1 0) (r.getD 2 0) (r.getD 3 0) (r.getD 4 0)]).length) (xs':=ints (List.flatMap OpT.flat (done++[iI (r.getD 0 0) (r.getD 1 0) (r.getD 2 0) (r.getD 3 0) (r.getD 4 0)]))) (ab rfl) rfl rfl rfl E9 EM rfl rfl rfl rfl rfl rfl (λ_ _=>gJ (fG _) (RO 0) (by rw[aW,dL])) (bv _) (by simp only[maxLen];omega) (by omega) (by simp) (by rw[←hop];simp[ints]) (λv74 ov74=>PS ?_);refine au (ag (ac J6 (ae (PS ?_))));refine tp (GQ (wU (k:=5) rfl fq jh (by rw[←hv_b];rfl) rfl (by omega) (by omega) rfl) (congrArg (λq=>tA q 5) hv_b.symm)) ?_;refine PS ?_;refine au ?_
 exact aL (((r.drop 5),(tA xv 5),(done++[iI (r.getD 0 0) (r.getD 1 0) (r.getD 2 0) (r.getD 3 0) (r.getD 4 0)]),v74):(List UInt8)×(Value)×(List OpT)×(Value)) ⟨hB.cut 5 (by omega),by rw[bK];omega,by rw[af,bK];simp;omega,by rw[ho,sv (by omega)];simp,vJ hx,ov74⟩ (by show(r.drop 5).length<r.length;rw[bK];omega)
  SB
  (λ_ s=>aj [2] rfl s)
 refine PS ?_;refine nx J10 (CN (sr λ_ J11=>PS ?_));refine ao ?_ ?_<;>intro h56;refine PS ?_;refine nx J11 (CY (D0 bc ?_));refine PD 0 ?_;refine ta 1 rfl (a8 (r:=off_b+3) hv_b rfl fq jh rfl rfl (by omega) (by omega) (by omega)) ?_;refine ta 2 rfl (bT (v:=(.int .u8 (((((r).getD 3 0).toNat:Nat):Int)))) rfl Y5 rfl rfl (iL hb_b (λ_ h=>h.1)) (hcs_b 3 (by omega))) ?_;refine ta 3 rfl (cx (r:=(n8 (r.getD 3 0))) rfl Y5 Y3 rfl (tK _)) ?_;refine PD 4 ?_;refine ta 5 rfl (a8 (r:=off_b+4) hv_b rfl fq jh rfl rfl (by omega) (by omega) (by omega)) ?_;refine ta 6 rfl (bT (v:=(.int .u8 (((((r).getD 4 0).toNat:Nat):Int)))) rfl Y5 rfl rfl (iL hb_b (λ_ h=>h.1)) (hcs_b 4 (by omega))) ?_;refine ta 7 rfl (cx (r:=(n8 (r.getD 4 0))) rfl Y5 Y3 rfl (tK _)) ?_;refine ta 8 rfl (iY (r:=(n8 (r.getD 4 0)-1)) rfl rfl rfl (bC (by have:=Io (r.getD 4 0);omega) (by have:=Io (r.getD 4 0);omega))) ?_;refine FD 9 4 eV aM ?_;refine AL 10 ?_;refine LT 0 Y3 (.int .i64 ((n8 (r.getD 2 0)))) ?_ (hc:=by exact rO _ rfl);refine EN (FD 11 8 eV aM ?_);refine AL 12 ?_;refine SS 0 aM (fG _) (OpT.set_mask _ rfl _) ?_;refine EN (FD 13 9 eV aM ?_);refine AL 14 ?_;refine SS 0 aM (fG _) (OpT.set_torn _ rfl _) ?_;refine EN (FD 15 10 eV aM ?_);refine AL 16 ?_;refine SS 0 aM (fG _) (OpT.set_cut _ rfl _) ?_;refine EN (DN (ag (ac J8 (ae ?_))))
 have hop:(OpT.mk (jG (r.getD 0 0)) (jQ (r.getD 0 0)) (jG (r.getD 1 0)) (jQ (r.getD 1 0)) (n8 (r.getD 2 0)) ChangeT.zero (n8 (r.getD 3 0)) (n8 (r.getD 4 0)-1) (n8 (r.getD 2 0)))=iI (r.getD 0 0) (r.getD 1 0) (r.getD 2 0) (r.getD 3 0) (r.getD 4 0):=by first| (rw[iI,if_pos h38];try rfl)| (rw[iI,if_neg h38,if_pos h56];try rfl)| (rw[iI,if_neg h38,if_neg h56];try rfl)
 refine PS ?_;refine LW 0 eV oH fG ?_;refine aP (cells:=(ints (OpT.mk (jG (r.getD 0 0)) (jQ (r.getD 0 0)) (jG (r.getD 1 0)) (jQ (r.getD 1 0)) (n8 (r.getD 2 0)) ChangeT.zero (n8 (r.getD 3 0)) (n8 (r.getD 4 0)-1) (n8 (r.getD 2 0))).flat).toArray) (ab rfl) rfl rfl rfl E9 EM rfl rfl rfl (jA (fG (OpT.mk (jG (r.getD 0 0)) (jQ (r.getD 0 0)) (jG (r.getD 1 0)) (jQ (r.getD 1 0)) (n8 (r.getD 2 0)) ChangeT.zero (n8 (r.getD 3 0)) (n8 (r.getD 4 0)-1) (n8 (r.getD 2 0)))) (by simp)) (λb73=>?_);change TL _ _ _ _ _ _ _ _ _ [ak b73 (ints (OpT.mk (jG (r.getD 0 0)) (jQ (r.getD 0 0)) (jG (r.getD 1 0)) (jQ (r.getD 1 0)) (n8 (r.getD 2 0)) ChangeT.zero (n8 (r.getD 3 0)) (n8 (r.getD 4 0)-1) (n8 (r.getD 2 0))).flat) 30,ak b4 (ints (OpT.mk (jG (r.getD 0 0)) (jQ (r.getD 0 0)) (jG (r.getD 1 0)) (jQ (r.getD 1 0)) (n8 (r.getD 2 0)) ChangeT.zero (n8 (r.getD 3 0)) (n8 (r.getD 4 0)-1) (n8 (r.getD 2 0))).flat) 30,own u (done.length) (ints (List.flatMap OpT.flat done)) 30 11]
 refine co (k:=2) (news:=ints (OpT.mk (jG (r.getD 0 0)) (jQ (r.getD 0 0)) (jG (r.getD 1 0)) (jQ (r.getD 1 0)) (n8 (r.getD 2 0)) ChangeT.zero (n8 (r.getD 3 0)) (n8 (r.getD 4 0)-1) (n8 (r.getD 2 0))).flat) (nn':=(done++[iI (r.getD 0 0) (r.getD 1 0) (r.getD 2 0) (r.getD 3 0) (r.getD 4 0)]).length) (xs':=ints (List.flatMap OpT.flat (done++[iI (r.getD 0 0) (r.getD 1 0) (r.getD 2 0) (r.getD 3 0) (r.getD 4 0)]))) (ab rfl) rfl rfl rfl E9 EM rfl rfl rfl rfl rfl rfl (λ_ _=>gJ (fG _) (RO 0) (by rw[aW,dL])) (bv _) (by simp only[maxLen];omega) (by omega) (by simp) (by rw[←hop];simp[ints]) (λv74 ov74=>PS ?_);refine au (ag (ac J6 (ae (PS ?_))));refine tp (GQ (wU (k:=5) rfl fq jh (by rw[←hv_b];rfl) rfl (by omega) (by omega) rfl) (congrArg (λq=>tA q 5) hv_b.symm)) ?_;refine PS ?_;refine au ?_
 exact aL (((r.drop 5),(tA xv 5),(done++[iI (r.getD 0 0) (r.getD 1 0) (r.getD 2 0) (r.getD 3 0) (r.getD 4 0)]),v74):(List UInt8)×(Value)×(List OpT)×(Value)) ⟨hB.cut 5 (by omega),by rw[bK];omega,by rw[af,bK];simp;omega,by rw[ho,sv (by omega)];simp,vJ hx,ov74⟩ (by show(r.drop 5).length<r.length;rw[bK];omega)
  SB
  (λ_ s=>aj [2] rfl s)
 refine PS ?_;refine nx J11 (CN (aS (ag (ac J8 (ae ?_)))));have hop:(OpT.mk (jG (r.getD 0 0)) (jQ (r.getD 0 0)) (jG (r.getD 1 0)) (jQ (r.getD 1 0)) (n8 (r.getD 2 0)) ChangeT.zero 0 0 0)=iI (r.getD 0 0) (r.getD 1 0) (r.getD 2 0) (r.getD 3 0) (r.getD 4 0):=by first| (rw[iI,if_pos h38];try rfl)| (rw[iI,if_neg h38,if_pos h56];try rfl)| (rw[iI,if_neg h38,if_neg h56];try rfl)
 refine PS ?_;refine LW 0 eV oH fG ?_;refine aP (cells:=(ints (OpT.mk (jG (r.getD 0 0)) (jQ (r.getD 0 0)) (jG (r.getD 1 0)) (jQ (r.getD 1 0)) (n8 (r.getD 2 0)) ChangeT.zero 0 0 0).flat).toArray) (ab rfl) rfl rfl rfl E9 EM rfl rfl rfl (jA (fG (OpT.mk (jG (r.getD 0 0)) (jQ (r.getD 0 0)) (jG (r.getD 1 0)) (jQ (r.getD 1 0)) (n8 (r.getD 2 0)) ChangeT.zero 0 0 0)) (by simp)) (λb73=>?_);change TL _ _ _ _ _ _ _ _ _ [ak b73 (ints (OpT.mk (jG (r.getD 0 0)) (jQ (r.getD 0 0)) (jG (r.getD 1 0)) (jQ (r.getD 1 0)) (n8 (r.getD 2 0)) ChangeT.zero 0 0 0).flat) 30,ak b4 (ints (OpT.mk (jG (r.getD 0 0)) (jQ (r.getD 0 0)) (jG (r.getD 1 0)) (jQ (r.getD 1 0)) (n8 (r.getD 2 0)) ChangeT.zero 0 0 0).flat) 30,own u (done.length) (ints (List.flatMap OpT.flat done)) 30 11];refine co (k:=2) (news:=ints (OpT.mk (jG (r.getD 0 0)) (jQ (r.getD 0 0)) (jG (r.getD 1 0)) (jQ (r.getD 1 0)) (n8 (r.getD 2 0)) ChangeT.zero 0 0 0).flat) (nn':=(done++[iI (r.getD 0 0) (r.getD 1 0) (r.getD 2 0) (r.getD 3 0) (r.getD 4 0)]).length) (xs':=ints (List.flatMap OpT.flat (done++[iI (r.getD 0 0) (r.getD 1 0) (r.getD 2 0) (r.getD 3 0) (r.getD 4 0)]))) (ab rfl) rfl rfl rfl E9 EM rfl rfl rfl rfl rfl rfl (λ_ _=>gJ (fG _) (RO 0) (by rw[aW,dL])) (bv _) (by simp only[maxLen];omega) (by omega) (by simp) (by rw[←hop];simp[ints]) (λv74 ov74=>PS ?_);refine au (ag (ac J6 (ae (PS ?_))))
 refine tp (GQ (wU (k:=5) rfl fq jh (by rw[←hv_b];rfl) rfl (by omega) (by omega) rfl) (congrArg (λq=>tA q 5) hv_b.symm)) ?_;refine PS ?_;refine au ?_
 exact aL (((r.drop 5),(tA xv 5),(done++[iI (r.getD 0 0) (r.getD 1 0) (r.getD 2 0) (r.getD 3 0) (r.getD 4 0)]),v74):(List UInt8)×(Value)×(List OpT)×(Value)) ⟨hB.cut 5 (by omega),by rw[bK];omega,by rw[af,bK];simp;omega,by rw[ho,sv (by omega)];simp,vJ hx,ov74⟩ (by show(r.drop 5).length<r.length;rw[bK];omega)
  SB
  (λ_ s=>aj [2] rfl s)
 refine nx J5 (CN (bg (aF (aF (bD (ac J3 (sr λ_ J12=>P2 ?_)))))));refine nx J12 (ai (WK [0] (ap rfl rfl ?_)));obtain rfl:wy bs=done:=by rw[ho,Et (by omega),aT]
 exact⟨u,rfl,rfl⟩
theorem JA:Tryz.prog.eqGuardType Tryz.prog.depth 37=false:=by kernel_rfl
theorem Jw:Tryz.prog.keyTypeAt 3 37=true:=by kernel_rfl
theorem KM:n9 Tryz.prog 3 37=some 3:=by kernel_rfl
theorem HB:(match Tryz.prog.underlying 37 with|some (.struct _)|some (.array _ _)=>true|_=>false)=true:=by kernel_rfl
theorem HJ:Tryz.prog.cellsOf 37=3:=by kernel_rfl
theorem yA{x:Value}{bs:List UInt8}{l:List OpT}(hl:bs.length≤1000000)(h:wy bs=l):DT 65 #[x] (IsB x bs) [] (dG (λr' H=>∃u,r'=u∧H=[own u (l.length) (ints (List.flatMap OpT.flat l)) 30 11])):=by subst h;exact u7 x bs hl
theorem uJ(c n:Nat)(a:CL)(h:CLOk n a)(x:Value)(l:List OpT)(hn:n+l.length≤100000)(hok: ∀o∈l,OkOp o):
 DT 25 #[(.pointer (some ⟨c,0,none⟩)),x] (IsL 11 (EF OpT.flat) x l) [fN c a] (RI (.int .i64 ((oa a l:Nat):Int)) [fN c (eh a l)]):=by
 refine BD 22 Tryz.func25 rfl rfl rfl λw0 F hF=>sr λ_ J1=>PS ?_
 refine nx J1 (sr λ_ J2=>PS ?_);refine nx J2 (aa λ_ J3=>sr λ_ J4=>PS ?_);refine tp (cY rfl E9 rfl hF.len) ?_;refine PS ?_;refine nx J4 (aq ?_)
 refine bF (α:=(Nat)) (λk=>k≤l.length) (λk=>[(0,(.pointer (some ⟨c,0,none⟩))),(5,(.int .i64 (((oa a (l.take k):Nat):Int)))),(8,x),(9,(.int .i64 (((l.length:Nat):Int)))),(10,(.int .i64 (((k:Nat):Int))))]) (λk=>[fN c (eh a (l.take k))]) (λk=>l.length-k) 0
  (aR _) SB
  (λ_ s=>s) (λk hinv=>?_)
 obtain hk:=hinv;refine sr λ_ J5=>PS ?_
 refine ao ?_ ?_<;>intro h11;obtain⟨b_e,off_e,cap_e,cs_e,T_e,z_e,us_e,hv_e,hc_e,hb_e,hl_e,hs_e,hE_e⟩:=IsL.at hF (j:=k) (by omega);have hkl:k<l.length:=by omega
 obtain⟨o,ho⟩: ∃o,o=l[k]:=⟨_,rfl⟩;replace hE_e:us_e=ints l[k].flat:=hE_e;rw[←ho]at hE_e;have hoo:OkOp o:=ho▸hok _ (cL ..);have hck:CLOk (n+l.length) (eh a (l.take k)):=(yo (l.take k) h (λo ho=>hok o (iO ho))).more (by rw[bz];omega);have hdl:=nr (vI (l.take k) a) (List.length_take_le k l);refine nx J5 (aa λ_ J6=>CY (qx J6 (aa λ_ J7=>aq (sr λ_ J8=>tp (a8 (r:=off_e+k*11) hv_e rfl E9 oH rfl rfl (by omega) (by omega) (by omega)) ?_))));refine tp (ol (vs:=ints o.flat) rfl eV rfl oH rfl (iL hb_e (λ_ h=>eP h)) (fG _) (hs_e.trans hE_e)) ?_;refine XZ Lo (ints OpT.zero.flat) λb7=>?_
 refine SW 0 oH fG ?_;refine nx J8 (sr λ_ J9=>PS ?_);refine LW 0 eV oH fG ?_;refine CE Km (AF (c:=c) (a:=eh a (l.take k)) (o:=o) hck (by omega) hoo) (SM [1]) ?_;refine PS ?_;refine ao ?_ ?_<;>intro h17;refine nx J9 (CY (ae (PS ?_)));refine AD ?_;refine PS ?_;refine au (ag (ac J7 (ae (AD ?_))));refine PS ?_;refine au ?_
 exact aL ((k+1):(Nat)) (by omega) (by show l.length- (k+1)<l.length-k;omega)
  (aQ (bo rfl (by rw[nU a l hkl,←ho,if_pos h17];simp) SB))
  (λ_ s=>by rw[py a l hkl,←ho];exact aj [0] rfl s)
 refine nx J9 (CN (aS (ag (ac J7 (ae (AD ?_))))));refine PS ?_;refine au ?_
 exact aL ((k+1):(Nat)) (by omega) (by show l.length- (k+1)<l.length-k;omega)
  (aQ (bo rfl (by rw[nU a l hkl,←ho,if_neg h17];simp) SB))
  (λ_ s=>by rw[py a l hkl,←ho];exact aj [0] rfl s)
 refine nx J5 (aa λ_ J10=>CN (bg (aF (aF (bD (ac J3 (sr λ_ J11=>P2 ?_)))))));refine nx J11 (ai (aD (H':=[fN c (eh a l)]) (dK _) (λ_ s=>by rw[show k=l.length by omega,dL]at s;exact s) (ap rfl rfl ?_)));exact⟨by rw[show k=l.length by omega,dL],rfl⟩
theorem B4:
 DT 24 #[] T0 [] (RI (.bool true) []):=by
 refine BD 22 Tryz.func24 rfl rfl rfl λw0 F hF=>sr λ_ J1=>PS ?_
 refine nx J1 (sr λ_ J2=>aP (cells:=#[(.int .u8 8),(.int .u8 0),(.int .u8 0),(.int .u8 0),(.int .u8 0)]) (ab rfl) rfl rfl rfl fq wG rfl rfl rfl (by as_aux_lemma=>kernel_rfl) (λb2=>CQ LK (yA (bs:=[8,0,0,0,0]) (l:=[⟨8,0,0,0,0, .zero,0,0,0⟩]) (by decide) rfl) ID (De (bs:=[8,0,0,0,0]) 0 (by simp) rfl rfl) λvR HR hR=>?_));obtain⟨_,rfl,rfl⟩:=hR;revert vR;intro ud;refine gR 0 rfl rfl (λhlud _=>PS ?_);refine nx J2 (sr λ_ J3=>PS ?_);refine tp (cY rfl E9 rfl hlud) ?_;refine PS ?_;refine ao ?_ ?_<;>intro h6;refine PS ?_;refine gG 0 rfl rfl (by decide) (λga capa hva hcapa=>?_);have hl1:([⟨8,0,0,0,0, .zero,0,0,0⟩]:List OpT).length=1:=rfl;refine PS ?_;refine tq (a8 (r:=0) hva rfl E9 oH rfl rfl (by omega) (by omega) rfl) ?_;refine FA 0 eV aM ?_;refine tq (bT (v:=(.int .i64 8)) rfl Y3 rfl rfl (eM 0 rfl hva rfl) rfl) ?_;refine P4 ?_;refine CF KE (vm ud ([⟨8,0,0,0,0, .zero,0,0,0⟩]:List OpT)) ID (Hz OpT.flat_length 0 rfl rfl) ?_;refine P2 ?_;refine CR IW (sx) ID λvR HR hR=>?_
 obtain⟨c,rfl,rfl⟩:=hR;refine tq (iM rfl KU rfl rfl) ?_;refine P2 ?_;exact nx J3 (ai (WK [] (ap rfl rfl ⟨rfl,rfl⟩)))
 · exact absurd rfl h6
theorem tt(x:Value)(l:List OpT)(hok: ∀o∈l,OkOp o):
 DT 5 #[x] (IsL 11 (EF OpT.flat) x l) [] (RI (.bool true) []):=by
 refine BD 83 Tryz.func5 rfl rfl rfl λw0 F hF=>sr λ_ J1=>PS ?_
 refine nx J1 (aa λ_ J2=>sr λ_ J3=>CE L4 (B4) ID ?_);refine PS ?_;refine nx J3 (CN (qx J2 (aa λ_ J4=>sr λ_ J5=>PS ?_)));refine CF KE (vm x l) ID (λ_ d _=>IsL.more EF.more hF d) ?_;refine ao ?_ ?_<;>intro h15;refine PS ?_;refine nx J5 (CN (qx J4 (sr λ_ J6=>CR IW (sx) ID λvR HR hR=>?_)));obtain⟨c,rfl,rfl⟩:=hR;refine CR IW (sx) ID λvR HR hR=>?_
 obtain⟨d,rfl,rfl⟩:=hR;refine P2 ?_;refine nx J6 (sr λ_ J7=>PS ?_);refine nx J7 (aa λ_ J8=>sr λ_ J9=>PS ?_);refine tp (cY rfl E9 rfl hF.len) ?_;refine PS ?_;refine nx J9 (aq ?_)
 refine bF (α:=(Nat)) (λk=>k≤l.length) (λk=>[(0,x),(2,(.bool false)),(3,(.pointer (some ⟨c,0,none⟩))),(4,(.pointer (some ⟨d,0,none⟩))),(5,(.int .i64 (((oa .new (l.take k):Nat):Int)))),(19,x),(20,(.int .i64 (((l.length:Nat):Int)))),(21,(.int .i64 (((k:Nat):Int))))]) (λk=>[fN c (eh .new (l.take k)),fN d CL.new]) (λk=>l.length-k) 0
  (aR _) SB
  (λ_ s=>aA [1,0] rfl s) (λk hinv=>?_)
 obtain hk:=hinv;refine sr λ_ J10=>PS ?_
 refine ao ?_ ?_<;>intro h22;obtain⟨b_e,off_e,cap_e,cs_e,T_e,z_e,us_e,hv_e,hc_e,hb_e,hl_e,hs_e,hE_e⟩:=IsL.at hF (j:=k) (by omega);have hkl:k<l.length:=by omega
 obtain⟨o,ho⟩: ∃o,o=l[k]:=⟨_,rfl⟩;replace hE_e:us_e=ints l[k].flat:=hE_e;rw[←ho]at hE_e;have hoo:OkOp o:=ho▸hok _ (cL ..);have hck:CLOk l.length (eh .new (l.take k)):=(yo (l.take k) new_ok (λo ho=>hok o (iO ho))).more (by rw[bz];omega);have hdl:=nr (vI (l.take k) .new) (List.length_take_le k l);refine nx J10 (aa λ_ J11=>CY (qx J11 (aa λ_ J12=>aq (sr λ_ J13=>tp (a8 (r:=off_e+k*11) hv_e rfl E9 oH rfl rfl (by omega) (by omega) (by omega)) ?_))));refine tp (ol (vs:=ints o.flat) rfl eV rfl oH rfl (iL hb_e (λ_ h=>eP h)) (fG _) (hs_e.trans hE_e)) ?_;refine XZ Lo (ints OpT.zero.flat) λb7=>?_
 refine SW 0 oH fG ?_;refine nx J13 (sr λ_ J14=>PS ?_);refine LW 0 eV oH fG ?_;refine CE Km (AF (c:=c) (a:=eh .new (l.take k)) (o:=o) hck (by omega) hoo) (SM [1]) ?_;refine PS ?_;refine ao ?_ ?_<;>intro h28;refine nx J14 (CY (ae (PS ?_)));refine AD ?_;refine PS ?_;refine au (ag (ac J12 (ae (AD ?_))));refine PS ?_;refine au ?_
 exact aL ((k+1):(Nat)) (by omega) (by show l.length- (k+1)<l.length-k;omega)
  (aQ (aQ (aQ (aQ (bo rfl (by rw[nU .new l hkl,←ho,if_pos h28];simp) SB)))))
  (λ_ s=>by rw[py .new l hkl,←ho];exact aj [0,1] rfl s)
 refine nx J14 (CN (aS (ag (ac J12 (ae (AD ?_))))));refine PS ?_;refine au ?_
 exact aL ((k+1):(Nat)) (by omega) (by show l.length- (k+1)<l.length-k;omega)
  (aQ (aQ (aQ (aQ (bo rfl (by rw[nU .new l hkl,←ho,if_neg h28];simp) SB)))))
  (λ_ s=>by rw[py .new l hkl,←ho];exact aj [0,1] rfl s)
 refine nx J10 (aa λ_ J15=>CN (bg (aF (aF (bD (ac J8 (aa λ_ J16=>sr λ_ J17=>?_)))))));obtain rfl:k=l.length:=by omega
 rw[dL];have hcl:CLOk l.length (eh .new l):=(yo l new_ok hok).more (by omega);have hrw:Iz (eh .new l):=CI l new_ok BK Hu hok (by omega);refine P2 ?_;refine CF L3 (uJ d 0 .new new_ok x l (by omega) hok) (SM [1]) (λ_ d _=>IsL.more EF.more hF d) ?_;refine P2 ?_;refine ao ?_ ?_<;>intro h36
 · exact absurd rfl h36
 refine P2 ?_;refine cn (H':=[fN c (eh .new l),fN d (eh .new l)]) (λ_ s=>aA [1,0] rfl s) (KW (H':=λgc:CX=>[ie c (eh .new l) gc,fN d (eh .new l)]) (λ_ s=>xL s) (λgc=>CE JY (ub hcl) ID ?_));refine PS ?_;refine cn (H':=[fN d (eh .new l),ie c (eh .new l) gc]) (λ_ s=>aA [1,0] rfl s) (KW (H':=λgd:CX=>[ie d (eh .new l) gd,ie c (eh .new l) gc]) (λ_ s=>xL s) (λgd=>CE JY (ub hcl) ID ?_));refine PS ?_;refine ao ?_ ?_<;>intro h42
 · exact absurd rfl h42
 refine PS ?_;refine nx J17 (CN (qx J16 (aa λ_ J18=>sr λ_ J19=>PS ?_)));refine nx J19 (aq ?_)
 refine bF (α:=(Nat)) (λi=>i≤5) (λi=>[(3,(.pointer (some ⟨c,0,none⟩))),(4,(.pointer (some ⟨d,0,none⟩))),(44,(.int .i64 (((i:Nat):Int))))]) (λi=>[ie c (eh .new l) gc,ie d (eh .new l) gd]) (λi=>5-i) 0
  (aR _) SB
  (λ_ s=>aj [1,0] rfl s) (λi hinv=>?_)
 obtain hi:=hinv;refine sr λ_ J20=>PS ?_
 refine ao ?_ ?_<;>intro h45;refine nx J20 (aa λ_ J21=>CY (qx J21 (aa λ_ J22=>aq (sr λ_ J23=>P2 ?_))));refine nx J23 (sr λ_ J24=>P2 ?_);refine CR Ht (uQ (i:=i) hcl (by omega) (by omega)) ID λvR HR hR=>?_
 obtain⟨_,h1uc,rfl,rfl⟩:=hR;revert vR;intro uc h1uc;refine gR 1 rfl rfl (λhluc _=>P2 ?_);refine CR Ht (uQ (i:=i) hcl (by omega) (by omega)) (SM [2]) λvR HR hR=>?_
 obtain⟨_,h1ud,rfl,rfl⟩:=hR;revert vR;intro ud h1ud;refine gR 1 rfl rfl (λhlud _=>P2 ?_);refine nx J24 (aa λ_ J25=>sr λ_ J26=>PS ?_);refine tp (cY rfl Cs rfl hluc) ?_;refine PS ?_;refine tp (cY rfl Cs rfl hlud) ?_;refine PS ?_;refine ao ?_ ?_<;>intro h57
 · exact absurd rfl h57
 refine P3 ?_;refine CE Ae (zr (i:=i) (by omega)) (SM [2]) ?_;refine P2 ?_;refine CE Ae (zr (i:=i) (by omega)) (SM [1]) ?_;refine tq (PV.neqBo rfl Y4 rfl rfl) ?_;refine aX ?_ ?_<;>intro h65
 · exact absurd h65 (by simp)
 refine PS ?_;refine nx J26 (CN (qx J25 (sr λ_ J27=>PS ?_)));refine tp (cY rfl Cs rfl hluc) ?_;refine PS ?_;refine nx J27 (aq ?_)
 refine bF (α:=(Nat)) (λj=>j≤((eh .new l).at' i).reps.length) (λj=>[(3,(.pointer (some ⟨c,0,none⟩))),(4,(.pointer (some ⟨d,0,none⟩))),(9,uc),(10,ud),(44,(.int .i64 (((i:Nat):Int)))),(68,(.int .i64 (((((eh .new l).at' i).reps.length:Nat):Int)))),(69,(.int .i64 (((j:Nat):Int))))]) (λj=>[ie d (eh .new l) gd,ie c (eh .new l) gc,own ud ((((eh .new l).at' i).reps).length) (ints (List.flatMap ReplyT.flat (((eh .new l).at' i).reps))) 37 3,own uc ((((eh .new l).at' i).reps).length) (ints (List.flatMap ReplyT.flat (((eh .new l).at' i).reps))) 37 3]) (λj=>((eh .new l).at' i).reps.length-j) 0
  (aR _) SB
  (λ_ s=>s) (λj hinv=>?_)
 obtain hj:=hinv;refine sr λ_ J28=>PS ?_
 refine ao ?_ ?_<;>intro h70;refine gG 3 rfl rfl (by omega) (λguc capuc hvuc hcapuc=>gG 2 rfl rfl (by omega) (λgud capud hvud hcapud=>nx J28 (aa λ_ J29=>CY (qx J29 (aa λ_ J30=>aq (sr λ_ J31=>P2 ?_))))));refine nx J31 (aa λ_ J32=>eH (α:=Unit) (λ_u=>(¬(((((eh .new l).at' i).reps[j]'(by omega)).flat)≠((((eh .new l).at' i).reps[j]'(by omega)).flat)))) (λ_u=>[(3,(.pointer (some ⟨c,0,none⟩))),(4,(.pointer (some ⟨d,0,none⟩))),(9,uc),(10,ud),(44,(.int .i64 (((i:Nat):Int)))),(68,(.int .i64 (((((eh .new l).at' i).reps.length:Nat):Int)))),(69,(.int .i64 (((j:Nat):Int)))),(80,(.bool false))]) (λ_u=>[ie d (eh .new l) gd,ie c (eh .new l) gc,own ud ((((eh .new l).at' i).reps).length) (ints (List.flatMap ReplyT.flat (((eh .new l).at' i).reps))) 37 3,own uc ((((eh .new l).at' i).reps).length) (ints (List.flatMap ReplyT.flat (((eh .new l).at' i).reps))) 37 3]) (λ_u hinv=>?_) (λtl32=>?_));have h80:=hinv;refine ac J32 (CN (aS (ag (ac J30 (ae (AD ?_))))));refine PS ?_;refine au ?_
 exact aL ((j+1):(Nat)) (by omega) (by show((eh .new l).at' i).reps.length- (j+1)< ((eh .new l).at' i).reps.length-j;omega)
  SB
  (λ_ s=>s)
 refine D0 dF ?_;refine PD 0 ?_;refine PD 1 ?_;refine ta 2 rfl (a8 (r:=j*3) hvuc rfl Cs DM rfl rfl (by omega) (by omega) (by omega)) ?_;refine PD 4 ?_;refine PD 5 ?_;refine ta 6 rfl (a8 (r:=j*3) hvud rfl Cs DM rfl rfl (by omega) (by omega) (by omega)) ?_;refine cE [3,7] (by kernel_rfl) rfl (aE rfl ?_ ?_);refine tp (ol (vs:=ints (((eh .new l).at' i).reps[j]'(by omega)).flat) rfl KT rfl DM rfl (eM 3 rfl hvuc rfl) (gx _) (oY rM (((eh .new l).at' i).reps) (by omega))) ?_;refine EN (AL 7 ?_);refine tp (ol (vs:=ints (((eh .new l).at' i).reps[j]'(by omega)).flat) rfl KT rfl DM rfl (eM 2 rfl hvud rfl) (gx _) (oY rM (((eh .new l).at' i).reps) (by omega))) ?_;refine EN (ta 8 rfl (we (a:=(((eh .new l).at' i).reps[j]'(by omega)).flat) (b:=(((eh .new l).at' i).reps[j]'(by omega)).flat) (m:=3) (c:=3) JA Jw rfl KM (c7 (gx (((eh .new l).at' i).reps[j]'(by omega)))) (c7 (gx (((eh .new l).at' i).reps[j]'(by omega)))) ⟨fo HB HJ (c7 (gx (((eh .new l).at' i).reps[j]'(by omega)))),fo HB HJ (c7 (gx (((eh .new l).at' i).reps[j]'(by omega))))⟩ (RW.wf (hrw i _ (cL ..))) (RW.wf (hrw i _ (cL ..))) rfl rfl rfl) ?_);refine gX ?_ ?_<;>intro h80
 · exact absurd rfl h80
 refine DN ?_
 exact aD
  SB
  (λ_ s=>s)
  (tl32 (():Unit) h80)
 refine aE rfl ?_ ?_;refine tp (ol (vs:=ints (((eh .new l).at' i).reps[j]'(by omega)).flat) rfl KT rfl DM rfl (eM 2 rfl hvud rfl) (gx _) (oY rM (((eh .new l).at' i).reps) (by omega))) ?_;refine EN (AL 3 ?_);refine tp (ol (vs:=ints (((eh .new l).at' i).reps[j]'(by omega)).flat) rfl KT rfl DM rfl (eM 3 rfl hvuc rfl) (gx _) (oY rM (((eh .new l).at' i).reps) (by omega))) ?_;refine EN (ta 8 rfl (we (a:=(((eh .new l).at' i).reps[j]'(by omega)).flat) (b:=(((eh .new l).at' i).reps[j]'(by omega)).flat) (m:=3) (c:=3) JA Jw rfl KM (c7 (gx (((eh .new l).at' i).reps[j]'(by omega)))) (c7 (gx (((eh .new l).at' i).reps[j]'(by omega)))) ⟨fo HB HJ (c7 (gx (((eh .new l).at' i).reps[j]'(by omega)))),fo HB HJ (c7 (gx (((eh .new l).at' i).reps[j]'(by omega))))⟩ (RW.wf (hrw i _ (cL ..))) (RW.wf (hrw i _ (cL ..))) rfl rfl rfl) ?_);refine gX ?_ ?_<;>intro h80
 · exact absurd rfl h80
 refine DN ?_
 exact aD
  SB
  (λ_ s=>s)
  (tl32 (():Unit) h80)
 exact bA;refine nx J28 (aa λ_ J33=>CN (bg (aF (aF (bD (ag (ac J22 (ae (AD ?_)))))))));refine PS ?_;refine au ?_
 exact aL ((i+1):(Nat)) (by omega) (by show 5- (i+1)<5-i;omega)
  SB
  (λ_ s=>aj [1,0] rfl s)
 refine nx J20 (aa λ_ J34=>CN (bg (aF (aF (bD (ac J18 (sr λ_ J35=>PS ?_)))))));exact nx J35 (ai (WK [] (ap rfl rfl ⟨rfl,rfl⟩)));refine PS ?_;refine nx J5 (CY (sr λ_ J36=>PS ?_));exact nx J36 (ai (ad (WK [] (ap rfl rfl ⟨rfl,rfl⟩))))
theorem scriptRuns_row(x:Value)(l:List OpT):DT 5 #[x] (IsL 11 (EW OpT.flat) x l) [] (RI (.bool true) []):=λw F r m=>tt x l (IL r) w F (Ir r).1 m
end Go.Proofs.YtjblgopghhgflaaGreat
end
