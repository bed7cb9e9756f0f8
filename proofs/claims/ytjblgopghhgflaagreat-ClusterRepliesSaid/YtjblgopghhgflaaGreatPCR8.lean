/-
  Joined texts:what a statement's proof reaches.
-/
import Derived.Test.YtjblgopghhgflaaGreatPCR7
set_option maxHeartbeats 8000000
set_option maxRecDepth 100000
set_option linter.unusedSimpArgs false
set_option linter.unusedVariables false
section
namespace Go.Proofs.YtjblgopghhgflaaGreat
open Go Leg Codec Api Dsk Wal
theorem zP(c n:Nat)(a:CL)(h:CLOk n a)(hn:n≤100000):
 DT 69 #[(.pointer (some ⟨c,0,none⟩))] T0 [fx c a] (dw (λ_ H=>H=[fx c (uI a)])):=by
 refine BD 20 Tryz.func69 rfl rfl rfl λw0 F hF=>sr λ_ J1=>PS ?_
 refine nx J1 (ap ?_)
 refine bB (α:=(Nat)) (λi=>i≤5) (λi=>[(0,(.pointer (some ⟨c,0,none⟩))),(4,(.int .i64 (((i:Nat):Int))))]) (λi=>[fx c (sweepTo a i)]) (λi=>5-i) 0
  (aN _) SB
  (λ_ s=>s) (λi hinv=>?_)
 obtain hi:=hinv;refine sr λ_ J2=>PS ?_
 refine am ?_ ?_<;>intro h5;refine nx J2 (aa λ_ J3=>CY (qx J3 (aa λ_ J4=>ap (sr λ_ J5=>P2 ?_))));refine nx J5 (sr λ_ J6=>PS ?_);refine nx J6 (ap ?_)
 refine bB (α:=(Nat)) (λj=>j≤5) (λj=>[(0,(.pointer (some ⟨c,0,none⟩))),(2,(.int .i64 (((i:Nat):Int)))),(4,(.int .i64 (((i:Nat):Int)))),(7,(.int .i64 (((j:Nat):Int))))]) (λj=>[fx c (tc (sweepTo a i) i j)]) (λj=>5-j) 0
  (aN _) SB
  (λ_ s=>s) (λj hinv=>?_)
 obtain hj:=hinv;refine sr λ_ J7=>PS ?_
 refine am ?_ ?_<;>intro h8;refine nx J7 (aa λ_ J8=>CY (qx J8 (aa λ_ J9=>ap (sr λ_ J10=>P2 ?_))));refine nx J10 (sr λ_ J11=>P3 ?_);refine am ?_ ?_<;>intro h12;refine nx J11 (CY (af (P3 ?_)));refine tp (kw OpT.zero (OpT.mk 5 ((i:Nat):Int) ((j:Nat):Int) 0 0 ChangeT.zero 0 0 0) [(0,[Value.int .i64 5]),(1,[Value.int .i64 ((i:Nat):Int)]),(2,[Value.int .i64 ((j:Nat):Int)])] eZ oA (g:=OpT.sg)) ?_;refine CE GA (pm (c:=c) (o:=(JQ 5 ((i:Nat):Int) ((j:Nat):Int))) ((h.sweepTo i).rows i j) hn (yR ..)) ID ?_;refine au (ag (ac J9 (af (AD ?_))));refine PS ?_;refine au ?_
 exact aJ ((j+1):(Nat)) (by omega) (by show 5- (j+1)<5-j;omega)
  SB
  (λ_ s=>by rw[Ge (by omega)];exact s)
 refine nx J11 (CN (aQ (ag (ac J9 (af (AD ?_))))));refine PS ?_;refine au ?_
 exact aJ ((j+1):(Nat)) (by omega) (by show 5- (j+1)<5-j;omega)
  SB
  (λ_ s=>by rw[Gf (by omega)];exact s)
 refine nx J7 (aa λ_ J12=>CN (aZ (aB (aB (bw (ag (ac J4 (af (AD ?_)))))))));refine PS ?_;refine au ?_
 exact aJ ((i+1):(Nat)) (by omega) (by show 5- (i+1)<5-i;omega)
  SB
  (λ_ s=>by rw[show j=5 by omega]at s;exact s)
 exact nx J2 (aa λ_ J13=>CN (aZ (aB (aB (bw (aE (H':=[fx c (uI a)]) (dE _) (λ_ s=>by rw[show i=5 by omega]at s;exact s) (bu rfl rfl)))))))
theorem yy(c n:Nat)(a:CL)(h:CLOk n a)(hn:n≤100000)(rounds:Nat)(hrd:rounds≤1000):
 DT 30 #[(.pointer (some ⟨c,0,none⟩)),(.int .i64 (((rounds:Nat):Int)))] T0 [fx c a] (dw (λ_ H=>H=[fx c (jL a rounds)])):=by
 refine BD 36 Tryz.func30 rfl rfl rfl λw0 F hF=>aa λ_ J1=>sr λ_ J2=>PS ?_
 refine tp (jF rfl LH rfl rfl) ?_;refine nx J2 (CN (qx J1 (sr λ_ J3=>PS ?_)));refine nx J3 (ap ?_)
 refine bB (α:=(Nat)) (λm=>m≤rounds) (λm=>[(0,(.pointer (some ⟨c,0,none⟩))),(1,(.int .i64 (((rounds:Nat):Int)))),(4,(.int .i64 (((m:Nat):Int))))]) (λm=>[fx c (jL a m)]) (λm=>rounds-m) 0
  (aN _) SB
  (λ_ s=>s) (λm hinv=>?_)
 obtain hm:=hinv;refine aa λ_ J4=>sr λ_ J5=>P3 ?_
 refine am ?_ ?_<;>intro h11;refine nx J5 (CY (qx J4 (aa λ_ J6=>ap (aa λ_ J7=>sr λ_ J8=>PS ?_))));refine nx J8 (ap ?_)
 refine bB (α:=(Nat)) (λi=>i≤5) (λi=>[(0,(.pointer (some ⟨c,0,none⟩))),(1,(.int .i64 (((rounds:Nat):Int)))),(4,(.int .i64 (((m:Nat):Int)))),(14,(.int .i64 (((i:Nat):Int))))]) (λi=>[fx c (sn (jL a m) i)]) (λi=>5-i) 0
  (aN _) SB
  (λ_ s=>s) (λi hinv=>?_)
 obtain hi:=hinv;refine sr λ_ J9=>PS ?_
 refine am ?_ ?_<;>intro h15;refine nx J9 (aa λ_ J10=>CY (qx J10 (aa λ_ J11=>ap (sr λ_ J12=>P2 ?_))));refine nx J12 (af (P2 ?_));refine tp (kw OpT.zero (OpT.mk 8 ((i:Nat):Int) 0 0 0 ChangeT.zero 0 0 0) [(0,[Value.int .i64 8]),(1,[Value.int .i64 ((i:Nat):Int)])] eZ oA (g:=OpT.sg)) ?_;refine CE GA (pm (c:=c) (o:=(JQ 8 ((i:Nat):Int) 0)) ((h.settle m).ticks i) hn (yR ..)) ID ?_;refine au (ag (ac J11 (af (AD ?_))));refine PS ?_;refine au ?_
 exact aJ ((i+1):(Nat)) (by omega) (by show 5- (i+1)<5-i;omega)
  SB
  (λ_ s=>s)
 refine nx J9 (aa λ_ J13=>CN (aZ (aB (aB (bw (ac J7 (sr λ_ J14=>PS ?_)))))));refine nx J14 (ap ?_)
 refine bB (α:=(Nat)×(CL)) (λ⟨k,d⟩=>k≤400∧CLOk n d∧lP (400-k) d=u9 (jL a m)) (λ⟨k,d⟩=>[(0,(.pointer (some ⟨c,0,none⟩))),(1,(.int .i64 (((rounds:Nat):Int)))),(4,(.int .i64 (((m:Nat):Int)))),(6,(.int .i64 (((k:Nat):Int))))]) (λ⟨k,d⟩=>[fx c d]) (λ⟨k,d⟩=>400-k) (0,sn (jL a m) i)
  ⟨aN _,(h.settle m).ticks i,by rw[show i=5 by omega];exact EK _⟩ SB
  (λ_ s=>s) (λ⟨k,d⟩ hinv=>?_)
 obtain⟨hk,hd,hs⟩:=hinv;refine aa λ_ J15=>sr λ_ J16=>P2 ?_
 refine am ?_ ?_<;>intro h23;refine P3 ?_;refine FA 0 ix yv ?_;refine Bq (H':=λg:CX=>[aj c (eA g.n (lc g) (jd d g.r) g.p) 104,dP 156 208 5 g.n (cF d.W),bH ((List.range 5).map λi=>ka (d.at' i) (g.d i) (g.r i) (g.p i))]) (λ_ s=>ff s) (λg=>LT 0 Hr (.pointer (some ⟨g.n,0,none⟩)) ?_ (hc:=by exact zh g.n (lc g) (jd d g.r) g.p));refine CE Ms (AA g.n (cF d.W) (BF hd)) (SM [1]) ?_;rw[qv d.W 25 (aP _)];change TL _ _ _ _ _ _ _ _ _ [dP 156 208 5 g.n (cF d.W),aj c (eA g.n (lc g) (jd d g.r) g.p) 104,bH ((List.range 5).map λi=>ka (d.at' i) (g.d i) (g.r i) (g.p i))];refine cp (H':=[fx c d]) (λ_ s=>bi (p:=p5 c d) (H:=[]) g (az [1,0,0] rfl s)) (PS ?_);refine am ?_ ?_<;>intro h30;refine PS ?_;refine nx J16 (CY (qx J15 (aa λ_ J17=>ap (af (PS ?_)))));refine CZ Mr (zP c n d hd hn) ID λvR=>?_
 refine au (ag (ac J17 (af (PS ?_))));refine AD ?_;refine PS ?_;refine au ?_
 exact aJ ((k+1,uI d):(Nat)×(CL)) ⟨by omega,hd.sweepTo 5,by rw[rh (by omega),if_neg (by unfold ym at*;omega)]at hs;exact hs⟩ (by show 400- (k+1)<400-k;omega)
  SB
  (λ_ s=>s)
 have hfin:d=jL a (m+1):=by rw[rh (by omega),if_pos (by unfold ym at*;omega)]at hs;exact hs
 refine PS ?_;refine nx J16 (CN (aZ (aB (aB (bw (ag (ac J6 (af (PS ?_)))))))));refine AD ?_;refine PS ?_;refine au ?_
 exact aJ ((m+1):(Nat)) (by omega) (by show rounds- (m+1)<rounds-m;omega)
  SB
  (λ_ s=>by rw[hfin]at s;exact s)
 have hfin:d=jL a (m+1):=by rw[yx (by omega)]at hs;exact hs
 refine PS ?_
 iterate 6 refine UF ?_
 refine PS ?_;refine nx J16 (CN (aZ (aB (aB (bw (ag (ac J6 (af (PS ?_)))))))));refine AD ?_;refine PS ?_;refine au ?_
 exact aJ ((m+1):(Nat)) (by omega) (by show rounds- (m+1)<rounds-m;omega)
  SB
  (λ_ s=>by rw[hfin]at s;exact s)
 exact nx J5 (CN (aZ (aB (aB (bw (aE (H':=[fx c (jL a rounds)]) (dE _) (λ_ s=>by rw[show m=rounds by omega]at s;exact s) (bu rfl rfl)))))))
end Go.Proofs.YtjblgopghhgflaaGreat
end

section
namespace Api
open Go Leg Codec Dsk Wal
structure RepOk(m:Nat)(s:MS LD):Prop where
 ops:0≤s.ops∧s.ops≤((m:Nat):Int)
 r: ∀x∈s.replies,1≤x.op∧x.op≤s.ops
 one:(s.replies.map (·.op)).Nodup
 w:0<s.waits→s.waits≤s.ops∧∀x∈s.replies,x.op≠s.waits
theorem RepOk.more{m k:Nat}{s:MS LD}(h:RepOk m s)(hk:m≤k):RepOk k s:=⟨⟨h.ops.1,by have:=h.ops.2;omega⟩,h.r,h.one,h.w⟩
theorem RepOk.qt{m:Nat}{s t:MS LD}(h:RepOk m s)(q:Qt s t):RepOk m t:=by
 refine⟨by rw[q.ops];exact h.ops,by rw[q.ops,q.replies];exact h.r,by rw[q.replies];exact h.one,λhw=>?_⟩;rw[q.replies,q.ops];rcases q.waits with e|e
 · rw[e]at hw ⊢;exact h.w hw
 · rw[e]at hw;exact absurd hw (by decide)
theorem vl{l:List Int}{x:Int}(h:l.Nodup)(hx: ∀y∈l,y≠x):(l++[x]).Nodup:=by
 rw[List.nodup_append];exact⟨h,by simp,λa ha b hb=>by rw[da]at hb;subst hb;exact hx a ha⟩
theorem RepOk.rp{m:Nat}{s t:MS LD}{e v:Int}(h:RepOk m s)(hw:0<s.waits)(q:Rp s t [⟨s.waits,e,v⟩])(w0:t.waits=0)(ho:t.ops=s.ops):RepOk m t:=by
 obtain⟨h1,h2⟩:=h.w hw;refine⟨by rw[ho];exact h.ops,λx hx=>?_,?_,λz=>by rw[w0]at z;exact absurd z (by decide)⟩
 · rw[q.replies]at hx
   rw[ho];rcases cx.1 hx with hx|hx
   · exact h.r x hx
   · rw[da]at hx;subst hx
     exact⟨by show 1≤s.waits;omega,h1⟩
 · rw[q.replies,co]
   exact vl h.one λy hy=>by
    obtain⟨x,hx,rfl⟩:=eH.1 hy;exact h2 x hx
theorem RepOk.cli{m:Nat}{s:MS LD}(h:RepOk m s)(hm:m≤1000000)(o:OpT):RepOk (m+1) (bP KD s o).1:=by
 have ew:fZ (s.ops+1)=s.ops+1:=by
  have:=h.ops;exact bI (by omega) (by omega)
 have r1: ∀x∈s.replies,x.op≠s.ops+1:=λx hx=>by have:=(h.r x hx).2;omega
 rcases sN (K:=KD) s o with⟨e,v,q,_,ho,hw⟩| ⟨q,_,ho,hw⟩
 · rw[ew]at q ho
   refine⟨by rw[ho];have:=h.ops;omega,λx hx=>?_,?_,λz=>?_⟩
   · rw[q.replies]at hx
     rw[ho];rcases cx.1 hx with hx|hx
     · have:=h.r x hx;omega
     · rw[da]at hx;subst hx
       have:=h.ops;show 1≤s.ops+1∧s.ops+1≤s.ops+1;omega
   · rw[q.replies,co]
     exact vl h.one λy hy=>by
      obtain⟨x,hx,rfl⟩:=eH.1 hy;exact r1 x hx
   · rcases hw with hw|hw
     · rw[hw]at z ⊢
       obtain⟨h1,h2⟩:=h.w z;rw[ho,q.replies];refine⟨by omega,λx hx=>?_⟩;rcases cx.1 hx with hx|hx
       · exact h2 x hx
       · rw[da]at hx;subst hx
         show s.ops+1≠s.waits;omega
     · rw[hw]at z;exact absurd z (by decide)
 · rw[ew]at ho hw
   have er:(bP KD s o).1.replies=s.replies:=by rw[q.replies,aM]
   refine⟨by rw[ho];have:=h.ops;omega,λx hx=>?_,by rw[er];exact h.one,λz=>?_⟩
   · rw[er]at hx
     rw[ho];have:=h.r x hx;omega
   · rw[hw,ho,er]
     exact⟨by omega,r1⟩
theorem RepOk.hush{m:Nat}{s:MS LD}(h:RepOk m s):RepOk m s.hush:=⟨h.ops,h.r,h.one,h.w⟩
theorem RepOk.fresh{m:Nat}{i:Int}{e:LD}{s:MS LD}(f:Fresh i e s):RepOk m s:=by
 refine⟨by rw[f.ops];omega,λx hx=>?_,by rw[f.replies];exact List.nodup_nil,λz=>?_⟩
 · rw[f.replies]at hx;cases hx
 · rw[f.waits]at z;exact absurd z (by decide)
theorem CL.set_at{a:CL}{i j:Nat}{x:Slot}{W:List (List MsgT)}(hi:i<a.ms.length):(CL.mk (a.ms.set i x) W).at' j=if j=i then x else a.at' j:=by
 split
 · rename_i h;subst h;exact sS hi
 · rename_i h;exact tE h
abbrev BA:= @CL.set_at
structure RepsOk(m:Nat)(a:CL):Prop where
 ok: ∀i s,(a.at' i).run=some s→RepOk m s
theorem RepsOk.more{m k:Nat}{a:CL}(h:RepsOk m a)(hk:m≤k):RepsOk k a:=⟨λi s q=>(h.ok i s q).more hk⟩
theorem RepsOk.put{m:Nat}{a:CL}(h:RepsOk m a){i:Nat}(hi:i<a.ms.length){x:Slot}{W:List (List MsgT)}(hx: ∀s,x.run=some s→RepOk m s):RepsOk m ⟨a.ms.set i x,W⟩:=⟨λj s q=>by
 rw[BA hi]at q;split at q
 · exact hx s q
 · exact h.ok j s q⟩
theorem gL{x:Slot}{s:MS LD}(h:x.run=some s):x.reps=x.past++s.replies:=by unfold Slot.reps;rw[h]
theorem ic{x:Slot}(h:x.run=none):x.reps=x.past:=by unfold Slot.reps;rw[h];exact aM _
theorem sL{n i:Nat}{a:CL}(h:CLOk n a)(hi:i<5){s t:MS LD}(hs:(a.at' i).run=some s){l:List ReplyT}(q:Rp s t l)(j:Nat):((a.did i t).at' j).reps=(a.at' j).reps++(if j=i then l else []):=by
 unfold CL.did;rw[BA (by rw[h.ms];exact hi)];split
 · rename_i hj;subst hj
   rw[gL (x:= {a.at' j with run:=some t.hush}) rfl,gL hs,show t.hush.replies=t.replies from rfl,q.replies,aY]
 · rw[aM]
theorem Be{n i:Nat}{a:CL}(h:CLOk n a)(hi:i<5)(o:OpT)(j:Nat): ∃l,(((sO a i o).1).at' j).reps=(a.at' j).reps++l∧(j=i→(a.at' i).up=true→((∃x:ReplyT,l=[x]∧x.err=(sO a i o).2)∨(l=[]∧(sO a i o).2=0))):=by
 unfold sO;cases hs:(a.at' i).run with
 |none=>exact⟨[],(aM _).symm,λ_ z=>by unfold Slot.up at z;rw[hs]at z;cases z⟩
 |some s=>
  simp only;split
  · rename_i hd
    exact⟨[],(aM _).symm,λ_ z=>by unfold Slot.up at z;rw[hs]at z;simp only at z;rw[hd]at z;cases z⟩
  · rcases sN (K:=KD) s o with⟨e,v,q,he,_,_⟩| ⟨q,he,_,_⟩
    · refine⟨_,sL h hi hs q j,λhj _=> .inl ⟨_,if_pos hj,he.symm⟩⟩
    · refine⟨_,sL h hi hs q j,λhj _=> .inr ⟨if_pos hj,he⟩⟩
theorem DY{n:Nat}{a:CL}(h:CLOk n a)(o:OpT)(j:Nat): ∃l,(((nG a o).1).at' j).reps=(a.at' j).reps++l:=by
 have none': ∃l,(a.at' j).reps=(a.at' j).reps++l:=⟨[],(aM _).symm⟩;unfold nG
 by_cases hm:eX o.at'=false
 · rw[if_pos hm];exact none'
 rw[if_neg hm];obtain⟨hi,_⟩:=gM (show eX o.at'=true by simpa using hm);have hi2:o.at'.toNat<a.ms.length:=by rw[h.ms];exact hi
 have same: ∀x:Slot,x.reps=(a.at' o.at'.toNat).reps→∃l,((a.set o.at'.toNat x).at' j).reps=(a.at' j).reps++l:=λx hx=>⟨[],by
  show((CL.mk (a.ms.set o.at'.toNat x) a.W).at' j).reps=_;rw[BA hi2,aM];split
  · rename_i q;subst q;exact hx
  · rfl⟩
 split
 · obtain⟨l,e,_⟩:=Be h hi o j
   exact⟨l,e⟩
 split
 · unfold m5
   have way: ∀k l,((a.way k l).at' j).reps=(a.at' j).reps:=λ_ _=>rfl
   split
   · exact none'
   split
   · exact none'
   split
   · split
     · exact none'
     · exact none'
   split
   · exact none'
   split
   · exact none'
   · rename_i m l _ _
     unfold p4;split
     · exact none'
     · rename_i s hs
       split
       · exact none'
       · split
         · have hb:(a.way (bq o.at' o.to') l).ms.length=5:=h.ms
           by_cases ht:o.to'.toNat<5
           · have rp: ∃r,Rp s (fu KD s ((o.at'.toNat:Nat):Int) (gO (dm m)).1) r:=by
              rcases tV (K:=KD) s ((o.at'.toNat:Nat):Int) (gO (dm m)).1 with q| ⟨_,q,_⟩
              · exact⟨_,q.rp⟩
              · exact⟨_,q⟩
             obtain⟨r,q⟩:=rp;refine⟨if j=o.to'.toNat then r else [],?_⟩;unfold CL.did;rw[BA (by rw[hb];exact ht)];split
             · rename_i hj;subst hj
               have hs':(a.at' o.to'.toNat).run=some s:=hs;rw[gL (x:= {(a.way (bq o.at' o.to') l).at' o.to'.toNat with run:=some (fu KD s ((o.at'.toNat:Nat):Int) (gO (dm m)).1).hush}) rfl,gL hs',show(fu KD s ((o.at'.toNat:Nat):Int) (gO (dm m)).1).hush.replies=(fu KD s ((o.at'.toNat:Nat):Int) (gO (dm m)).1).replies from rfl,q.replies,aY];rfl
             · rw[aM];rfl
           · refine⟨[],?_⟩
             unfold CL.did;rw[aM,show((a.way (bq o.at' o.to') l).ms.set o.to'.toNat _)=a.ms from ji (by rw[hb];omega)];rfl
         · exact none'
 split
 · unfold ys
   split
   · exact none'
   · rename_i s hs
     split
     · exact none'
     · exact⟨_,sL h hi hs (Qt.rp inferInstance) j⟩
 split
 · refine same _ ?_
   unfold sT;split
   · rename_i s hs
     rw[gL hs,gL (x:= {a.at' o.at'.toNat with run:=some (s.dsk (s.e.D.arm o.n))}) rfl];rfl
   · rename_i hs
     rw[ic hs];exact ic hs
 split
 · exact same _ (ic rfl)
 split
 · refine same _ ?_
   unfold gx;split
   · rfl
   · rename_i hs
     rw[ic hs];cases hd:(dI o.at'.toNat (a.at' o.at'.toNat).D).1 with
     |none=>exact ic rfl
     |some s=>
      obtain⟨_,hr⟩:=iG hd;have f:=oC _ (wq _ _) hr;show(Slot.mk (some s) _ (a.at' o.at'.toNat).past).reps=_;rw[gL (x:=Slot.mk (some s) _ (a.at' o.at'.toNat).past) rfl,f.replies,aM]
 · exact none'
theorem xW{n m:Nat}{a:CL}(h:CLOk n a)(g:RepsOk m a)(hm:m≤1000000)(o:OpT):RepsOk (m+1) (nG a o).1:=by
 have none':RepsOk (m+1) a:=g.more (by omega)
 have did: ∀{i:Nat} {s t:MS LD},i<5→(a.at' i).run=some s→RepOk (m+1) t→RepsOk (m+1) (a.did i t):=λhi _ ht=>RepsOk.put none' (by rw[h.ms];exact hi) λs q=>by
  obtain rfl:=cR q;exact ht.hush
 unfold nG
 by_cases hm':eX o.at'=false
 · rw[if_pos hm'];exact none'
 rw[if_neg hm'];obtain⟨hi,_⟩:=gM (show eX o.at'=true by simpa using hm');have hi2:o.at'.toNat<a.ms.length:=by rw[h.ms];exact hi
 split
 · unfold sO
   split
   · exact none'
   · rename_i s hs
     split
     · exact none'
     · exact did hi hs ((g.ok _ s hs).cli hm o)
 split
 · unfold m5
   split
   · exact none'
   split
   · exact none'
   split
   · split
     · exact⟨none'.ok⟩
     · exact none'
   split
   · exact none'
   split
   · exact⟨none'.ok⟩
   · rename_i m' l _ _
     unfold p4;split
     · exact⟨none'.ok⟩
     · rename_i s hs
       split
       · exact⟨none'.ok⟩
       · split
         · have hs':(a.at' o.to'.toNat).run=some s:=hs
           have ok:RepOk (m+1) (fu KD s ((o.at'.toNat:Nat):Int) (gO (dm m')).1):=by
            have h0:=(g.ok _ s hs').more (Nat.le_succ m);rcases tV (K:=KD) s ((o.at'.toNat:Nat):Int) (gO (dm m')).1 with q| ⟨hw,q,q2,q3⟩
            · exact h0.qt q
            · exact h0.rp hw q q2 q3
           unfold CL.did
           by_cases ht:o.to'.toNat<5
           · exact RepsOk.put (a:=a) none' (by rw[h.ms];exact ht) λs q=>by
              obtain rfl:=cR q;exact ok.hush
           · rw[show((a.way (bq o.at' o.to') l).ms.set o.to'.toNat _)=a.ms from ji (by show a.ms.length≤_;rw[h.ms];omega)]
             exact⟨none'.ok⟩
         · exact⟨none'.ok⟩
 split
 · unfold ys
   split
   · exact none'
   · rename_i s hs
     split
     · exact none'
     · exact did hi hs (((g.ok _ s hs).more (Nat.le_succ m)).qt inferInstance)
 split
 · refine none'.put hi2 λs q=>?_
   unfold sT at q;split at q
   · rename_i t ht
     obtain rfl:=cR q;have:=none'.ok _ t ht;exact⟨this.ops,this.r,this.one,this.w⟩
   · rename_i ht
     have q:(a.at' o.at'.toNat).run=some s:=q;rw[ht]at q;cases q
 split
 · exact none'.put hi2 λs q=>by cases q
 split
 · refine none'.put hi2 λs q=>?_
   unfold gx at q;split at q
   · exact none'.ok _ s q
   · obtain⟨_,hr⟩:=iG q
     exact RepOk.fresh (oC _ (wq _ _) hr)
 · exact none'
theorem BX{i:Nat}{x:Slot}{s:MS LD}(h:(gx i x).1.run=some s):x.run=some s∨(dI i x.D).1=some s:=by
 unfold gx at h;split at h
 · exact .inl h
 · exact .inr h
theorem qu:RepsOk 0 CL.new:=⟨λi s q=>by
 by_cases hi:i<5
 · have e:CL.new.at' i=lS i:=by simp[CL.new,CL.at',List.getD_eq_getElem?_getD,hi]
   rw[e]at q;unfold lS at q;rcases BX q with q|q
   · cases q
   obtain⟨_,hr⟩:=iG q;exact RepOk.fresh (oC _ (wq _ _) hr)
 · have e:CL.new.at' i= .nil:=by
    unfold CL.at' CL.new;rw[List.getD_eq_getElem?_getD,List.getElem?_eq_none (by rw[bK,nC];omega),Option.getD_none]
   rw[e]at q;cases q⟩
theorem ql: ∀(l:List OpT) {n m:Nat} {a:CL},CLOk n a→RepsOk m a→(∀o∈l,OkOp o)→m+l.length≤1000000→RepsOk (m+l.length) (bV a l)
 | [],_,_,_,_,g,_,_=>g
 |o::l,n,m,a,h,g,ho,hl=>by
  rw[ax]at hl ⊢;have:=ql l (xX h (ho o (fq ..))) (xW h g (by omega) o) (λx hx=>ho x (iT _ hx)) (by omega);rw[show m+(l.length+1)=m+1+l.length by omega];exact this
theorem EJ(a:CL)(l:List OpT)(o:OpT):bV a (l++[o])=(nG (bV a l) o).1:=by simp[bV]
theorem iZ(a:CL)(l:List OpT){k:Nat}(hk:k<l.length):bV a (l.take (k+1))=(nG (bV a (l.take k)) (l[k])).1:=by
 rw[bW hk,EJ]
def Sml(n:Int):Prop:=0≤n∧n≤20
theorem Sml.inr{n:Int}(h:Sml n):qQ n:=⟨by have:=h.1;omega,by have:=h.2;omega⟩
abbrev M3:= @Sml.inr
theorem oe{k:Int}(h:decide (0≤k∧k≤20)=true):Sml k:=by
 have:0≤k∧k≤20:=of_decide_eq_true h;exact this
theorem F5(v:ViewT)(c:ChangeT):Sml (dB v c).2:=by
 unfold dB
 repeat' split
 all_goals exact oe rfl
theorem Ev(D:DS)(at':Int)(bs:List UInt8):Sml (D.write at' bs).1:=by
 unfold DS.write
 repeat' split
 all_goals exact oe rfl
theorem uM: ∀(ss:List js) (at':Int) (D:DS),Sml (fX ss at' D).1
 | [],_,_=>oe rfl
 |s::ss,at',D=>by
  rw[fX];split
  · exact uM ss _ _
  · exact Ev _ _ _
theorem Dp(e:LD)(bs:List UInt8):Sml (e.put bs).2:=by
 unfold LD.put ng DS.sync;simp only
 repeat' split
 all_goals first|exact oe rfl|exact uM _ _ _
theorem F6(x:RowT)(key n k:Int)(c:CellT):Sml (ki x key n k c).2:=by
 unfold ki;split<;>exact oe rfl
theorem F7(x:RepT)(o:OpT):Sml (gg x o).2:=by
 unfold gg nQ nR kI
 repeat' split
 all_goals first|exact oe rfl|exact F6 _ _ _ _ _
theorem F4(x:RepT)(o:OpT):Sml (im x o).2.2:=by
 unfold im
 repeat' split
 all_goals first|exact oe rfl|exact F7 _ _
theorem G1(b:BookT)(key:Int):qQ (jX b key):=by
 unfold jX;rw[show pI b key 5=_ from q9 b key 4];exact kF _
theorem G0(x:RepT)(o:OpT):qQ (im x o).2.1:=by
 unfold im
 repeat' split
 all_goals first|exact M3 (oe rfl)|exact G1 _ _
structure RW(r:ReplyT):Prop where
 op:qQ r.op
 err:qQ r.err
 value:qQ r.value
theorem RW.wf{r:ReplyT}(h:RW r):WF r.flat:=λn hn=>by
 simp only[ReplyT.flat,ci,List.not_mem_nil,or_false]at hn;rcases hn with rfl|rfl|rfl
 · exact mD h.op
 · exact mD h.err
 · exact mD h.value
theorem FC(s:MS LD)(o:OpT): ∀r∈(bP KD s o).1.replies,r∈s.replies∨RW r:=by
 have rep: ∀(t u:MS LD) (op e v:Int),t.replies=s.replies→qQ op→qQ e→qQ v→u.replies=(de t op e v).replies→∀r∈u.replies,r∈s.replies∨RW r:=λt u op e v ht h1 h2 h3 hu r hr=>by
  rw[hu]at hr;have hr:r∈t.replies++[⟨op,e,v⟩]:=hr;rcases cx.1 hr with hr|hr
  · rw[ht]at hr;exact .inl hr
  · rw[da]at hr;subst hr;exact .inr ⟨h1,h2,h3⟩
 have z:qQ 0:=M3 (oe rfl);have ho:qQ (br s).ops:=kF _
 have hb:Sml (cn KD (br s) o.change).2:=by
  unfold cn
  repeat' split
  all_goals first|exact oe rfl|exact Dp _ _
 unfold bP;split
 · unfold dN
   split
   · refine rep (br s) _ _ _ 0 rfl ho (M3 ?_) z rfl
     unfold fm;split
     · exact oe rfl
     · exact F5 _ _
   · have q:Qt (br s) (cn KD (br s) o.change).1:=inferInstance
     split
     · exact rep (cn KD (br s) o.change).1 _ _ _ 0 q.replies ho hb.inr z rfl
     · have q2:Qt (de (cn KD (br s) o.change).1 (br s).ops 0 0) (nh KD (de (cn KD (br s) o.change).1 (br s).ops 0 0) (jc (br s).view (en (br s)) o.change)):=inferInstance
       exact rep (cn KD (br s) o.change).1 _ _ 0 0 q.replies ho z z q2.replies
 · unfold mZ
   split
   · exact rep (br s) _ _ _ _ rfl ho (F4 _ _).inr (G0 _ _) rfl
   · have hg:Sml (eF KD (br s) (cZ (br s) o).1 (br s).ops).2:=by
      unfold eF;split
      · exact Dp _ _
      · exact oe rfl
     rcases DW (K:=KD) (br s) (cZ (br s) o).1 (br s).ops with⟨h,q⟩| ⟨h,q,_⟩
     · rw[if_pos h]
       exact rep (eF KD (br s) (cZ (br s) o).1 (br s).ops).1 _ _ _ 0 q.replies ho hg.inr z rfl
     · rw[if_neg (by omega)]
       intro r hr;rw[q.replies,aM]at hr;exact .inl hr
def IB(a:CL):Prop:=∀i,∀r∈(a.at' i).reps,RW r
theorem Ia:IB CL.new:=λi r hr=>by
 by_cases hi:i<5
 · have e:CL.new.at' i=lS i:=by simp[CL.new,CL.at',List.getD_eq_getElem?_getD,hi]
   rw[e]at hr;unfold lS gx at hr;have hr:r∈(Slot.mk (dI i Slot.nil.D).1 (bL Slot.nil.D).D []).reps:=hr;cases hs:(dI i Slot.nil.D).1 with
   |none=>rw[hs]at hr;unfold Slot.reps at hr;simp at hr
   |some s=>
    rw[hs]at hr;obtain⟨_,hr'⟩:=iG hs;have f:=oC _ (wq _ _) hr';unfold Slot.reps at hr;simp[f.replies]at hr
 · have e:CL.new.at' i= .nil:=by
    unfold CL.at' CL.new;rw[List.getD_eq_getElem?_getD,List.getElem?_eq_none (by rw[bK,nC];omega),Option.getD_none]
   rw[e]at hr;unfold Slot.reps Slot.nil at hr;simp at hr
theorem Ha{n m:Nat}{a:CL}(h:CLOk n a)(g:RepsOk m a)(hm:m≤1000000)(hw:IB a)(o:OpT):IB (nG a o).1:=by
 have did: ∀{i:Nat} {s t:MS LD} {W:List (List MsgT)},i<5→(a.at' i).run=some s→(∀r∈t.replies,r∈s.replies∨RW r)→IB ⟨a.ms.set i {a.at' i with run:=some t.hush},W⟩:=λ {i s t W} hi hs ht j r hr=>by
  rw[BA (by rw[h.ms];exact hi)]at hr;split at hr
  · rw[gL (x:= {a.at' i with run:=some t.hush}) rfl]at hr
    have hsl: ∀r∈(a.at' i).past++s.replies,RW r:=λr hr=>hw i r (by rw[gL hs];exact hr)
    rcases cx.1 hr with hr|hr
    · exact hsl r (List.mem_append_left _ hr)
    · rcases ht r hr with hr|hr
      · exact hsl r (Nf _ hr)
      · exact hr
  · exact hw j r hr
 have put: ∀{i:Nat} {x:Slot},i<5→x.reps=(a.at' i).reps→IB (a.set i x):=λ {i x} hi hx j r hr=>by
  have hr:r∈((CL.mk (a.ms.set i x) a.W).at' j).reps:=hr;rw[BA (by rw[h.ms];exact hi)]at hr;split at hr
  · rw[hx]at hr;exact hw i r hr
  · exact hw j r hr
 unfold nG
 by_cases hm':eX o.at'=false
 · rw[if_pos hm'];exact hw
 rw[if_neg hm'];obtain⟨hi,_⟩:=gM (show eX o.at'=true by simpa using hm');split
 · unfold sO
   split
   · exact hw
   · rename_i s hs
     split
     · exact hw
     · exact did hi hs (FC s o)
 split
 · unfold m5
   split
   · exact hw
   split
   · exact hw
   split
   · split
     · exact hw
     · exact hw
   split
   · exact hw
   split
   · exact hw
   · rename_i m' l _ _
     unfold p4;split
     · exact hw
     · rename_i s hs
       split
       · exact hw
       · split
         · have hs':(a.at' o.to'.toNat).run=some s:=hs
           by_cases ht:o.to'.toNat<5
           · refine did (W:=gn (a.W.set (bq o.at' o.to') l) o.to'.toNat _) ht hs' λr hr=>?_
             rcases tV (K:=KD) s ((o.at'.toNat:Nat):Int) (gO (dm m')).1 with q| ⟨hw',q,_,_⟩
             · rw[q.replies]at hr;exact .inl hr
             · rw[q.replies]at hr
               rcases cx.1 hr with hr|hr
               · exact .inl hr
               · rw[da]at hr;subst hr
                 have h1:=(g.ok _ s hs').w hw';have h2:=(g.ok _ s hs').ops;exact .inr ⟨⟨by show-9223372036854775808≤s.waits;omega,by show s.waits<9223372036854775808;omega⟩,M3 ⟨Int.le_refl _,by show(0:Int)≤20;omega⟩,M3 ⟨Int.le_refl _,by show(0:Int)≤20;omega⟩⟩
           · intro j r hr
             unfold CL.did at hr;rw[show((a.way (bq o.at' o.to') l).ms.set o.to'.toNat _)=a.ms from ji (by show a.ms.length≤_;rw[h.ms];omega)]at hr;exact hw j r hr
         · exact hw
 split
 · unfold ys
   split
   · exact hw
   · rename_i s hs
     split
     · exact hw
     · refine did (W:=gn a.W o.at'.toNat _) hi hs λr hr=>?_
       have q:Qt s (hO KD s):=inferInstance;rw[q.replies]at hr;exact .inl hr
 split
 · refine put hi ?_
   unfold sT;split
   · rename_i s hs
     rw[gL hs,gL (x:= {a.at' o.at'.toNat with run:=some (s.dsk (s.e.D.arm o.n))}) rfl];rfl
   · rename_i hs
     rw[ic hs];exact ic hs
 split
 · exact put hi (ic rfl)
 split
 · refine put hi ?_
   unfold gx;split
   · rfl
   · rename_i hs
     rw[ic hs];cases hd:(dI o.at'.toNat (a.at' o.at'.toNat).D).1 with
     |none=>exact ic rfl
     |some s=>
      obtain⟨_,hr⟩:=iG hd;have f:=oC _ (wq _ _) hr;show(Slot.mk (some s) _ (a.at' o.at'.toNat).past).reps=_;rw[gL (x:=Slot.mk (some s) _ (a.at' o.at'.toNat).past) rfl,f.replies,aM]
 · exact hw
theorem Dt: ∀(l:List OpT) {n m:Nat} {a:CL},CLOk n a→RepsOk m a→IB a→(∀o∈l,OkOp o)→m+l.length≤1000000→IB (bV a l)
 | [],_,_,_,_,_,hw,_,_=>hw
 |o::l,n,m,a,h,g,hw,ho,hl=>by
  rw[ax]at hl;exact Dt l (xX h (ho o (fq ..))) (xW h g (by omega) o) (Ha h g (by omega) hw o) (λx hx=>ho x (iT _ hx)) (by omega)
def AT:OpT:=⟨0,0,0,0,5, .zero,0,0,0⟩
theorem AS:OkOp AT:=⟨Hg,by decide⟩
def JE:CL:=(nG .new AT).1
def fitB:CL:=jL JE 3
theorem Ii:CLOk 1 JE:=xX new_ok AS
def Lu:Bool:=decide ((nG .new AT).2=0)&&(match(fitB.at' 2).run with
 |some s=>decide (jX s.book 0=5)
 |none=>false)&&(fitB.at' 2).up&&(fitB.at' 4).up
theorem Fv:Lu=true:=by decide+kernel
theorem Ih:(nG .new AT).2=0∧∃s2,(fitB.at' 2).run=some s2∧(fitB.at' 2).up=true∧jX s2.book 0=5∧(fitB.at' 4).up=true:=by
 have h:=Fv;unfold Lu at h;rw[av,av,av]at h;obtain⟨⟨⟨h1,h2⟩,h3⟩,h4⟩:=h;refine⟨of_decide_eq_true h1,?_⟩;cases hs:(fitB.at' 2).run with
 |none=>rw[hs]at h2;cases h2
 |some s=>rw[hs]at h2;exact⟨s,rfl,h3,of_decide_eq_true h2,h4⟩
def EW{α:Type}(f:α→List Int)(us:List Value)(x:α)(_:Hl):Prop:=us=ints (f x)∧WF (f x)
theorem I8{α:Type}{f:α→List Int}{m:Nat}{v:Value}{l:List α}{F:Hl}(h:IsL m (EW f) v l F):IsL m (EF f) v l F∧∀o∈l,WF (f o):=by
 rcases h with⟨rfl,rfl⟩| ⟨a,c,rfl,rfl⟩| ⟨b,off,cap,cs,T,z,rfl,h1,h2,h3,h4⟩
 · exact⟨.inl ⟨rfl,rfl⟩,λo ho=>by cases ho⟩
 · exact⟨.inr (.inl ⟨a,c,rfl,rfl⟩),λo ho=>by cases ho⟩
 · refine⟨.inr (.inr ⟨b,off,cap,cs,T,z,rfl,h1,h2,h3,λj hj=>?_⟩),λo ho=>?_⟩
   · obtain⟨us,e1,e2,e3⟩:=h4 j hj
     exact⟨us,e1,e2,e3.1⟩
   · obtain⟨j,hj,rfl⟩:=e4 ho
     obtain⟨us,e1,e2,e3⟩:=h4 j hj;exact e3.2
theorem H5{o:OpT}(h:WF o.flat):OkOp o:=by
 refine⟨⟨λn hn=>h n ?_⟩,?_⟩
 · simp only[OpT.flat,cx,ci,List.not_mem_nil,or_false]
   simp[hn]
 · have:=zE (h o.n (by simp[OpT.flat]))
   omega
theorem Jq{x:Value}{l:List OpT}{F:Hl}(h:IsL 11 (EW OpT.flat) x l F): ∀o∈l,OkOp o:=λo ho=>H5 ((I8 h).2 o ho)
theorem Es{n:Nat}{a:CL}(h:CLOk n a)(o:OpT): ∃m,((nG a o).1.at' o.at'.toNat).reps=(a.at' o.at'.toNat).reps++m∧(0≤o.kind→o.kind≤4→Jj a o.at'=true→((∃x:ReplyT,m=[x]∧x.err=(nG a o).2)∨(m=[]∧(nG a o).2=0))):=by
 by_cases hk:0≤o.kind∧o.kind≤4
 · by_cases hm:eX o.at'=true
   · obtain⟨hi,_⟩:=gM hm
     obtain⟨l,e,hc⟩:=Be h hi o o.at'.toNat
     have ed:nG a o=sO a o.at'.toNat o:=by
      unfold nG;rw[if_neg (by rw[hm];decide),if_pos hk]
     rw[ed];refine⟨l,e,λ_ _ hu=>hc rfl ?_⟩;unfold Jj at hu;rw[hm]at hu;exact hu
   · obtain⟨l,e⟩:=DY h o o.at'.toNat
     refine⟨l,e,λ_ _ hu=>?_⟩;unfold Jj at hu;rw[show eX o.at'=false by simpa using hm]at hu;cases hu
 · obtain⟨l,e⟩:=DY h o o.at'.toNat
   exact⟨l,e,λh1 h2 _=>absurd ⟨h1,h2⟩ hk⟩
theorem BW{n:Nat}{a:CL}(h:CLOk n a)(o:OpT): ∃m,aV (nG a o).1 o.at'=aV a o.at'++m∧(0≤o.kind→o.kind≤4→Jj a o.at'=true→((∃x:ReplyT,m=[x]∧x.err=(nG a o).2)∨(m=[]∧(nG a o).2=0))):=by
 obtain⟨m,h1,h2⟩:=Es h o;unfold aV;cases hm:eX o.at'
 · refine⟨[],rfl,λ_ _ hu=>?_⟩
   unfold Jj at hu;rw[hm]at hu;cases hu
 · exact⟨m,h1,h2⟩
def xo(l:List ReplyT):List (Int×Value):=l.foldl (λkv r=>ou kv r.op (.bool true)) []
theorem uX: ∀(l:List ReplyT) (kv:List (Int×Value)) (k:Int),qA kv k=none→(∀r∈l,r.op≠k)→qA (l.foldl (λkv r=>ou kv r.op (.bool true)) kv) k=none
 | [],_,_,h,_=>h
 |r::l,kv,k,h,hl=>uX l _ k (by rw[GY,if_neg (λe=>hl r (fq ..) e.symm)];exact h) λx hx=>hl x (iT _ hx)
theorem B2(l:List ReplyT){j:Nat}(hj:j<l.length):xo (l.take (j+1))=ou (xo (l.take j)) (l[j]).op (.bool true):=by
 unfold xo;rw[bW hj,dU];rfl
theorem Gb{m:Nat}{s:MS LD}(h:RepOk m s){j:Nat}(hj:j<s.replies.length):qA (xo (s.replies.take j)) (s.replies[j]).op=none:=uX _ _ _ rfl λr hr e=>by
 have h1:=h.one;rw[←ij j s.replies,co,List.nodup_append]at h1;exact h1.2.2 _ (Dd hr) _ (Dd (List.mem_drop_iff_getElem.2 ⟨0,by omega,rfl⟩)) e
section
variable {A m:List ReplyT} {e:Int}
theorem Gj(h:(∃x:ReplyT,m=[x]∧x.err=e)∨(m=[]∧e=0))(he: ¬e=0):m.length=1:=by
 rcases h with⟨x,rfl,_⟩| ⟨_,h0⟩
 · rfl
 · exact absurd h0 he
theorem Gk(h:(∃x:ReplyT,m=[x]∧x.err=e)∨(m=[]∧e=0))(he: ¬e=0)(hl:A.length< (A++m).length):((A++m)[A.length]).err=e:=by
 rcases h with⟨x,rfl,hx⟩| ⟨_,h0⟩
 · rw[Mb (aP _)]
   simpa using hx
 · exact absurd h0 he
theorem xw(h:(∃x:ReplyT,m=[x]∧x.err=e)∨(m=[]∧e=0)):m.length≤1:=by
 rcases h with⟨x,rfl,_⟩| ⟨rfl,_⟩
 · exact aP _
 · exact aN _
end
theorem o5{a:CL}(h:IB a){w:Int}{r:ReplyT}(hr:r∈aV a w):WF r.flat:=by
 unfold aV at hr;split at hr
 · exact(h _ r hr).wf
 · cases hr
theorem G7(l:List ReplyT){i:Nat}(hi:i<l.length):(ints (l.flatMap ReplyT.flat))[i*3+1]?=some (.int .i64 (l[i]).err):=by
 have h:=jz (m:=3) (f:=ReplyT.flat) (λ_=>rfl) l hi;have h2:(((ints (l.flatMap ReplyT.flat)).drop (i*3)).take 3)[1]?=some (.int .i64 (l[i]).err):=by rw[h];rfl
 rwa [List.getElem?_take_of_lt (by omega),List.getElem?_drop]at h2
theorem EM{n:Nat}{a:CL}(h:CLOk n a)(w:Int):(aV a w).length≤n:=by
 unfold aV;split
 · rename_i hm
   have:=(h.at' _ (gM hm).1).reps;omega
 · exact aN _
end Api
end

section
namespace Go.Proofs.YtjblgopghhgflaaGreat
open Go Leg Codec Api Dsk Wal
theorem Cz:
 DT 12 #[] T0 [] (RI (.bool true) []):=by
 refine BD 38 Tryz.func12 rfl rfl rfl λw0 F hF=>?_
 obtain⟨hf1,s2,hs2,hu2,hk2,hu4⟩:=Ih;refine sr λ_ J1=>PS ?_
 refine nx J1 (sr λ_ J2=>CR Li (xH) ID λvR HR hR=>?_);obtain⟨c,rfl,rfl⟩:=hR;refine PS ?_;refine nx J2 (aa λ_ J3=>sr λ_ J4=>PS ?_);refine tp (jF rfl LH rfl rfl) ?_;refine nx J4 (CN (qx J3 (sr λ_ J5=>PS ?_)));refine tp (kw OpT.zero (OpT.mk 0 0 0 0 5 ChangeT.zero 0 0 0) [(0,[Value.int .i64 0]),(4,[Value.int .i64 5])] eZ oA (g:=OpT.sg)) ?_;refine CR GA (pm (c:=c) (o:=AT) new_ok (by decide) AS) ID λvR HR hR=>?_
 obtain⟨hv,rfl⟩:=hR;rw[hf1]at hv;subst hv;refine PS ?_;refine nx J5 (sr λ_ J6=>PS ?_);refine CZ MC (yy c 1 JE Ii (by decide) 3 (by decide)) ID λvR=>?_
 refine nx J6 (sr λ_ J7=>PS ?_);refine Bq (H':=λg:CX=>[eO c fitB g]) (λ_ s=>nw s) (λg=>CR KP (vz (i:=2) (by decide)) ID λvR HR hR=>?_);obtain⟨hv,rfl⟩:=hR;rw[AG,if_pos hu2]at hv;subst hv;refine PS ?_;refine nx J7 (sr λ_ J8=>P4 ?_);refine tq (iS rfl yd rfl rfl) ?_;refine P3 ?_;refine CR Mz (Ls (i:=2) (by decide) hs2 (zK s2 _ _ 0)) ID λvR HR hR=>?_
 obtain⟨hv,rfl⟩:=hR;rw[hk2]at hv;subst hv;refine P4 ?_;refine CR wH (zL (i:=4) (by decide)) ID λvR HR hR=>?_
 obtain⟨hv,rfl⟩:=hR;rw[hu4]at hv;subst hv;refine P2 ?_;refine CQ KG (vJ 0 1 (.slice none 0 0) [] (by decide)) ID (λ_ _ _=>Or.inl (Or.inl ⟨rfl,rfl⟩)) λvR HR hR=>?_
 obtain⟨_,rfl,rfl⟩:=hR;revert vR;intro uf;refine fY 0 rfl rfl (λhluf _=>?_);rw[n4]at hluf;refine tq (cu rfl gk rfl hluf) ?_;refine P3 ?_;refine CE KM (vL) ID ?_;refine CE H9 (j8 firstV Rng.first) ID ?_;refine P2 ?_;exact nx J8 (ai (WK [] (aq rfl rfl ⟨rfl,rfl⟩)))
theorem Cp(x:Value)(l:List OpT):
 DT 13 #[x] (IsL 11 (EF OpT.flat) x l) [] (RI (.bool (decide (((l.length:Nat):Int)≤1200))) []):=by
 refine BD 6 Tryz.func13 rfl rfl rfl λw0 F hF=>sr λ_ J1=>PS ?_
 refine nx J1 (sr λ_ J2=>PS ?_);refine tp (cu rfl Tryz.underlying22 rfl hF.len) ?_;refine P2 ?_;exact nx J2 (ai (WK [] (aq rfl rfl ⟨rfl,rfl⟩)))
theorem HQ:Tryz.prog.eqGuardType Tryz.prog.depth 37=false:=by kernel_rfl
theorem HO:Tryz.prog.keyTypeAt 3 37=true:=by kernel_rfl
theorem Ij:ol Tryz.prog 3 37=some 3:=by kernel_rfl
theorem AV:(match Tryz.prog.underlying 37 with|some (.struct _)|some (.array _ _)=>true|_=>false)=true:=by kernel_rfl
theorem Bi:Tryz.prog.cellsOf 37=3:=by kernel_rfl
theorem pR(x:Value)(l:List OpT)(hok: ∀o∈l,OkOp o):
 DT 3 #[x] (IsL 11 (EF OpT.flat) x l) [] (RI (.bool true) []):=by
 refine Leg.Does.body (vs:=[x]) (n:=142) Tryz.func3 rfl rfl rfl (λw0 F hF=>?_);refine sr λ_ J1=>?_
 refine oD ?_;refine nx J1 ?_;refine aa λ_ J2=>?_
 refine sr λ_ J3=>?_
 refine kl (ab rfl) rfl rfl rfl ME rfl (Cz) (λ_ s=>s) (λ_ _ _=>trivial) (λvR HR hR=>?_);obtain⟨rfl,rfl⟩:=hR;refine tp (ln (r:=false) rfl rfl rfl) ?_;refine nx J3 ?_;refine Ea rfl ?_;refine aQ ?_;refine ac J2 ?_;refine aa λ_ J4=>?_
 refine sr λ_ J5=>?_
 refine mv ?_;refine kl (ab rfl) rfl rfl rfl MD rfl (Cp x l) (λ_ s=>s) (λ_ d _=>IsL.more EF.more hF d) (λvR HR hR=>?_);obtain⟨rfl,rfl⟩:=hR;refine am (λh20=>?_) (λh20=>?_);refine tp (ln (r:=false) rfl rfl rfl) ?_;refine nx J5 ?_;refine Ea rfl ?_;refine aQ ?_;refine ac J4 ?_;refine sr λ_ J6=>?_
 refine kl (ab rfl) rfl rfl rfl Li rfl (xH) (λ_ s=>s) (λ_ _ _=>trivial) (λvR HR hR=>?_);obtain⟨c,rfl,rfl⟩:=hR;refine oD ?_;refine nx J6 ?_;refine aa λ_ J7=>?_
 refine sr λ_ J8=>?_
 refine mv ?_;refine tp (cu rfl Tryz.underlying22 rfl hF.len) ?_;refine mv ?_;refine nx J8 ?_;refine ap ?_
 refine bB (α:=(Nat)) (λk=>k≤l.length) (λk=>[(3,(.pointer (some ⟨c,0,none⟩))),(23,x),(24,(.int .i64 (((l.length:Nat):Int)))),(25,(.int .i64 (((k:Nat):Int))))]) (λk=>[fx c (bV .new (l.take k))]) (λk=>l.length-k) 0
  (aN _) (aS (aS (aS (bC rfl (by congr 1) (JU _)))))
  (λ_ s=>s) (λk hinv=>?_)
 obtain hk:=hinv;refine sr λ_ J9=>?_
 refine tp (PV.lss rfl rfl rfl) ?_;refine am (λh26=>?_) (λh26=>?_);obtain⟨b_e,off_e,cap_e,cs_e,T_e,z_e,us_e,hv_e,hc_e,hb_e,hl_e,hs_e,hE_e⟩:=IsL.at hF (j:=k) (by omega);have hkl:k<l.length:=by omega
 obtain⟨o,ho⟩: ∃o,o=l[k]:=⟨_,rfl⟩;replace hE_e:us_e=ints l[k].flat:=hE_e;rw[←ho]at hE_e;have hoo:OkOp o:=ho▸hok _ (bZ ..);have hck:CLOk l.length (bV .new (l.take k)):=(B6 (l.take k) new_ok (λo ho=>hok o (gr ho))).more (by rw[bo];omega);have hrk:RepsOk l.length (bV .new (l.take k)):=(ql (l.take k) new_ok qu (λo ho=>hok o (gr ho)) (by rw[bo];omega)).more (by rw[bo];omega);have hwk:IB (bV .new (l.take k)):=Dt (l.take k) new_ok qu Ia (λo ho=>hok o (gr ho)) (by rw[bo];omega);have hra:=EM hck o.at';have hwk1:=Ha hck hrk (by omega) hwk o;obtain⟨m,hm,hcl⟩:=BW hck o;refine Bq (H':=λg:CX=>[eO c (bV .new (l.take k)) g]) (λ_ s=>nw s) (λg=>?_);refine nx J9 ?_;refine aa λ_ J10=>?_
 refine mC rfl ?_;refine aQ ?_;refine ac J10 ?_;refine aa λ_ J11=>?_
 refine ap ?_;refine sr λ_ J12=>?_
 refine tp (bv (r:=off_e+k*11) hv_e rfl Tryz.underlying22 yw rfl rfl (by omega) (by omega) (by omega)) ?_;refine tp (jG (vs:=ints o.flat) rfl eZ rfl yw rfl (Bw hb_e (λ_ h=>e5 h)) (Bx _) (hs_e.trans hE_e)) ?_;refine pA (ab rfl) rfl rfl rfl M1 (λb5=>?_);change TL _ _ _ _ _ _ _ _ _ [aj b5 (ints OpT.zero.flat) 30,eO c (bV .new (l.take k)) g];refine ck (vs:=ints o.flat) (i:=0) (ab rfl) rfl rfl rfl rfl rfl (by rw[(Bx o)];exact yw) (bG _) rfl rfl (by have h0:=(Bx OpT.zero);have h1:=(Bx o);omega) (cz ((Bx OpT.zero).trans (Bx o).symm)) rfl ?_;refine nx J12 ?_;refine sr λ_ J13=>?_
 refine mv ?_;refine tp (a9 (r:=1) rfl eZ rfl aO rfl rfl) ?_;refine tp (gR (v:=(.int .i64 (o.at'))) rfl Y3 rfl rfl (eR 0 rfl rfl) (bt o rfl)) ?_;refine kl (ab rfl) rfl rfl rfl GD rfl (qm hck (by omega) (o.at')) (λ_ s=>az [1] rfl s) (λ_ _ _=>trivial) (λvR HR hR=>?_);obtain⟨_,h1ua,rfl,rfl⟩:=hR;revert vR;intro ua h1ua;refine fY 1 rfl rfl (λhlua _=>?_);refine oD ?_;refine nx J13 ?_;refine sr λ_ J14=>?_
 refine mv ?_;refine tp (a9 (r:=1) rfl eZ rfl aO rfl rfl) ?_;refine tp (gR (v:=(.int .i64 (o.at'))) rfl Y3 rfl rfl (eR 2 rfl rfl) (bt o rfl)) ?_;refine kl (ab rfl) rfl rfl rfl wH rfl (FW (o.at')) (λ_ s=>s) (λ_ _ _=>trivial) (λvR HR hR=>?_);obtain⟨rfl,rfl⟩:=hR;refine aX (λh36=>?_) (λh36=>?_);refine oD ?_;refine nx J14 ?_;refine sr λ_ J15=>?_
 refine mv ?_;refine tp (aK (vs:=ints o.flat) rfl eZ rfl yw rfl (eR 2 rfl rfl) (Bx o) (bk (Bx o))) ?_;refine cp (H':=[fx c (bV .new (l.take k)),own ua (((aV (bV .new (l.take k)) (o.at'))).length) (ints (List.flatMap ReplyT.flat ((aV (bV .new (l.take k)) (o.at'))))) 37 3,aj b5 (ints o.flat) 30]) (λ_ s=>gP s) ?_;refine kl (ab rfl) rfl rfl rfl GA rfl (pm (c:=c) (a:=bV .new (l.take k)) (o:=o) hck (by omega) hoo) (λ_ s=>s) (λ_ _ _=>trivial) (λvR HR hR=>?_);obtain⟨rfl,rfl⟩:=hR;refine oD ?_;refine nx J15 ?_;refine sr λ_ J16=>?_
 refine mv ?_;refine tp (a9 (r:=1) rfl eZ rfl aO rfl rfl) ?_;refine tp (gR (v:=(.int .i64 (o.at'))) rfl Y3 rfl rfl (eR 2 rfl rfl) (bt o rfl)) ?_;refine Bq (H':=λg2:CX=>[eO c ((nG (bV .new (l.take k)) o).1) g2,own ua (((aV (bV .new (l.take k)) (o.at'))).length) (ints (List.flatMap ReplyT.flat ((aV (bV .new (l.take k)) (o.at'))))) 37 3,aj b5 (ints o.flat) 30]) (λ_ s=>nw s) (λg2=>?_);refine kl (ab rfl) rfl rfl rfl GD rfl (qm (xX hck hoo) (by omega) (o.at')) (λ_ s=>s) (λ_ _ _=>trivial) (λvR HR hR=>?_);obtain⟨_,h1ub,rfl,rfl⟩:=hR;revert vR;intro ub h1ub;rw[hm];refine fY 1 rfl rfl (λhlub _=>?_);refine oD ?_;refine nx J16 ?_;refine aa λ_ J17=>?_
 refine sr λ_ J18=>?_
 refine mv ?_;refine tp (cu rfl qR rfl hlub) ?_;refine mv ?_;refine tp (cu rfl qR rfl hlua) ?_;refine tp (PV.lss rfl rfl rfl) ?_;refine am (λh48=>?_) (λh48=>?_)
 · exact absurd h48 (by rw[ad];omega)
 refine nx J18 ?_;refine Ea rfl ?_;refine aQ ?_;refine ac J17 ?_;refine aa λ_ J19=>?_
 refine sr λ_ J20=>?_
 refine mv ?_;refine tp (cu rfl qR rfl hlua) ?_;refine mv ?_;refine nx J20 ?_;refine ap ?_
 refine bB (α:=(Nat)) (λj=>j≤(aV (bV .new (l.take k)) (o.at')).length) (λj=>[(3,(.pointer (some ⟨c,0,none⟩))),(5,(.pointer (some ⟨b5,0,none⟩))),(6,ua),(7,(.bool true)),(8,(.int .i64 ((nG (bV .new (l.take k)) o).2))),(9,ub),(23,x),(24,(.int .i64 (((l.length:Nat):Int)))),(25,(.int .i64 (((k:Nat):Int)))),(50,(.int .i64 ((((aV (bV .new (l.take k)) (o.at')).length:Nat):Int)))),(51,(.int .i64 (((j:Nat):Int))))]) (λj=>[eO c ((nG (bV .new (l.take k)) o).1) g2,own ub ((((aV (bV .new (l.take k)) (o.at'))++m)).length) (ints (List.flatMap ReplyT.flat (((aV (bV .new (l.take k)) (o.at'))++m)))) 37 3,own ua (((aV (bV .new (l.take k)) (o.at'))).length) (ints (List.flatMap ReplyT.flat ((aV (bV .new (l.take k)) (o.at'))))) 37 3,aj b5 (ints o.flat) 30]) (λj=>(aV (bV .new (l.take k)) (o.at')).length-j) 0
  (aN _) (aS (aS (aS (aS (aS (aS (aS (aS (aS (aS (bC rfl (by congr 1) (JU _))))))))))))
  (λ_ s=>s) (λj hinv=>?_)
 obtain hj:=hinv;refine sr λ_ J21=>?_
 refine tp (PV.lss rfl rfl rfl) ?_;refine am (λh52=>?_) (λh52=>?_);have hlm:(((aV (bV .new (l.take k)) (o.at'))++m)).length=(aV (bV .new (l.take k)) (o.at')).length+m.length:=ad;refine fG 2 rfl rfl (by omega) (λgua capua hvua hcapua=>?_);refine fG 1 rfl rfl (by omega) (λgub capub hvub hcapub=>?_);refine nx J21 ?_;refine aa λ_ J22=>?_
 refine mC rfl ?_;refine aQ ?_;refine ac J22 ?_;refine aa λ_ J23=>?_
 refine ap ?_;refine sr λ_ J24=>?_
 refine mv ?_;refine oD ?_;refine nx J24 ?_;refine aa λ_ J25=>?_
 refine eJ (α:=Unit) (λ_u=>(¬(((((aV (bV .new (l.take k)) (o.at'))++m)[j]'(by rw[ad];omega)).flat)≠(((aV (bV .new (l.take k)) (o.at'))[j]'(by omega)).flat)))) (λ_u=>[(3,(.pointer (some ⟨c,0,none⟩))),(5,(.pointer (some ⟨b5,0,none⟩))),(6,ua),(7,(.bool true)),(8,(.int .i64 ((nG (bV .new (l.take k)) o).2))),(9,ub),(23,x),(24,(.int .i64 (((l.length:Nat):Int)))),(25,(.int .i64 (((k:Nat):Int)))),(50,(.int .i64 ((((aV (bV .new (l.take k)) (o.at')).length:Nat):Int)))),(51,(.int .i64 (((j:Nat):Int)))),(62,(.bool false))]) (λ_u=>[eO c ((nG (bV .new (l.take k)) o).1) g2,own ub ((((aV (bV .new (l.take k)) (o.at'))++m)).length) (ints (List.flatMap ReplyT.flat (((aV (bV .new (l.take k)) (o.at'))++m)))) 37 3,own ua (((aV (bV .new (l.take k)) (o.at'))).length) (ints (List.flatMap ReplyT.flat ((aV (bV .new (l.take k)) (o.at'))))) 37 3,aj b5 (ints o.flat) 30]) (λ_u hinv=>?_) (λtl25=>?_);have h62:=hinv;refine ac J25 ?_;refine Ea rfl ?_;refine aQ ?_;refine ag ?_;refine ac J23 ?_;refine af ?_;refine tp (cw rfl rfl rfl (bI (by omega) (by omega))) ?_;refine mv ?_;refine au ?_
 exact aJ ((j+1):(Nat)) (by omega) (by show(aV (bV .new (l.take k)) (o.at')).length- (j+1)< (aV (bV .new (l.take k)) (o.at')).length-j;omega)
  (aS (aS (aS (aS (aS (aS (aS (aS (aS (aS (bC rfl (by simp) (JU _))))))))))))
  (λ_ s=>s)
 refine qL (λw=>Frm F w∧True) dC rfl (λ_ s=>⟨e5 s,trivial⟩) ?_;refine ta 0 rfl (jt rfl rfl) ?_;refine ta 1 rfl (jt rfl rfl) ?_;refine ta 2 rfl (bv (r:=j*3) hvub rfl qR pP rfl rfl (by omega) (by omega) (by omega)) ?_;refine ta 4 rfl (jt rfl rfl) ?_;refine ta 5 rfl (jt rfl rfl) ?_;refine ta 6 rfl (bv (r:=j*3) hvua rfl qR pP rfl rfl (by omega) (by omega) (by omega)) ?_;refine cJ [3,7] (by kernel_rfl) rfl ?_;refine aF rfl ?_ ?_;refine tp (jG (vs:=ints (((aV (bV .new (l.take k)) (o.at'))++m)[j]'(by rw[ad];omega)).flat) rfl D9 rfl pP rfl (dT 1 rfl hvub rfl) (cI _) (jz fp ((aV (bV .new (l.take k)) (o.at'))++m) (by rw[ad];omega))) ?_;refine au ?_;refine tG (λ_ s=>⟨e5 s,trivial⟩) ?_;refine cJ [7] (by kernel_rfl) rfl ?_;refine aF rfl ?_ ?_;refine tp (jG (vs:=ints ((aV (bV .new (l.take k)) (o.at'))[j]'(by omega)).flat) rfl D9 rfl pP rfl (dT 2 rfl hvua rfl) (cI _) (jz fp (aV (bV .new (l.take k)) (o.at')) (by omega))) ?_;refine au ?_;refine tG (λ_ s=>⟨e5 s,trivial⟩) ?_
 refine ta 8 rfl (oy (a:=(((aV (bV .new (l.take k)) (o.at'))++m)[j]'(by rw[ad];omega)).flat) (b:=((aV (bV .new (l.take k)) (o.at'))[j]'(by omega)).flat) (m:=3) (c:=3) HQ HO rfl Ij (ct (cI (((aV (bV .new (l.take k)) (o.at'))++m)[j]'(by rw[ad];omega)))) (ct (cI ((aV (bV .new (l.take k)) (o.at'))[j]'(by omega)))) ⟨eC AV Bi (ct (cI (((aV (bV .new (l.take k)) (o.at'))++m)[j]'(by rw[ad];omega)))),eC AV Bi (ct (cI ((aV (bV .new (l.take k)) (o.at'))[j]'(by omega))))⟩ (o5 hwk1 (by rw[hm];exact bZ ..)) (o5 hwk (bZ ..)) rfl rfl rfl) ?_;refine gF (λh62=>?_) (λh62=>?_)
 · exact absurd (by rw[jj]) h62
 refine TD.done (by kernel_rfl) ?_
 exact aE
  (aS (aS (aS (aS (aS (aS (aS (aS (aS (aS (aS (aS (JU _)))))))))))))
  (λ_ s=>s)
  (tl25 (():Unit) h62)
 exact bD;refine aF rfl ?_ ?_;refine tp (jG (vs:=ints ((aV (bV .new (l.take k)) (o.at'))[j]'(by omega)).flat) rfl D9 rfl pP rfl (dT 2 rfl hvua rfl) (cI _) (jz fp (aV (bV .new (l.take k)) (o.at')) (by omega))) ?_;refine au ?_;refine tG (λ_ s=>⟨e5 s,trivial⟩) ?_;refine cJ [3] (by kernel_rfl) rfl ?_;refine aF rfl ?_ ?_;refine tp (jG (vs:=ints (((aV (bV .new (l.take k)) (o.at'))++m)[j]'(by rw[ad];omega)).flat) rfl D9 rfl pP rfl (dT 1 rfl hvub rfl) (cI _) (jz fp ((aV (bV .new (l.take k)) (o.at'))++m) (by rw[ad];omega))) ?_;refine au ?_;refine tG (λ_ s=>⟨e5 s,trivial⟩) ?_;refine ta 8 rfl (oy (a:=(((aV (bV .new (l.take k)) (o.at'))++m)[j]'(by rw[ad];omega)).flat) (b:=((aV (bV .new (l.take k)) (o.at'))[j]'(by omega)).flat) (m:=3) (c:=3) HQ HO rfl Ij (ct (cI (((aV (bV .new (l.take k)) (o.at'))++m)[j]'(by rw[ad];omega)))) (ct (cI ((aV (bV .new (l.take k)) (o.at'))[j]'(by omega)))) ⟨eC AV Bi (ct (cI (((aV (bV .new (l.take k)) (o.at'))++m)[j]'(by rw[ad];omega)))),eC AV Bi (ct (cI ((aV (bV .new (l.take k)) (o.at'))[j]'(by omega))))⟩ (o5 hwk1 (by rw[hm];exact bZ ..)) (o5 hwk (bZ ..)) rfl rfl rfl) ?_;refine gF (λh62=>?_) (λh62=>?_)
 · exact absurd (by rw[jj]) h62
 refine TD.done (by kernel_rfl) ?_
 exact aE
  (aS (aS (aS (aS (aS (aS (aS (aS (aS (aS (aS (aS (JU _)))))))))))))
  (λ_ s=>s)
  (tl25 (():Unit) h62)
 exact bD;exact bD;refine nx J21 ?_;refine aa λ_ J26=>?_
 refine Ea rfl ?_;refine aZ ?_;refine aB ?_;refine aB ?_;refine bw ?_;refine ac J19 ?_;refine sr λ_ J27=>?_
 refine tp (a9 (r:=0) rfl eZ rfl aO rfl rfl) ?_;refine tp (gR (v:=(.int .i64 (o.kind))) rfl Y3 rfl rfl (eR 3 rfl rfl) (cq o rfl)) ?_;refine tp (PV.geq rfl rfl rfl) ?_;refine am (λh66=>?_) (λh66=>?_);refine mv ?_;refine tq (a9 (r:=0) rfl eZ rfl aO rfl rfl) ?_;refine tq (gR (v:=(.int .i64 (o.kind))) rfl Y3 rfl rfl (eR 3 rfl rfl) (cq o rfl)) ?_;refine tq (PV.leq rfl rfl rfl) ?_;refine am (λh70=>?_) (λh70=>?_);refine tp (w5 rfl rfl rfl) ?_;refine mv ?_;refine tq (jt rfl rfl) ?_;refine tp (w5 rfl rfl rfl) ?_;refine oD ?_;refine nx J27 ?_;refine aa λ_ J28=>?_
 refine sr λ_ J29=>?_
 refine mv ?_;refine mv ?_;refine tq (jt rfl rfl) ?_;refine tq (PV.neq rfl rfl rfl) ?_;refine am (λh78=>?_) (λh78=>?_);refine tp (w5 rfl rfl rfl) ?_;refine mv ?_;refine tq (jt rfl rfl) ?_;refine tq (cu rfl qR rfl hlub) ?_;refine tq (jt rfl rfl) ?_;refine tq (cu rfl qR rfl hlua) ?_;refine tq (cw rfl rfl rfl (bI (by omega) (by omega))) ?_;refine tq (PV.neq rfl rfl rfl) ?_;refine am (λh86=>?_) (λh86=>?_)
 · exact absurd (by rw[ad,Gj (hcl (by omega) (by omega) h36) h78];simp) h86
 have hlm:(((aV (bV .new (l.take k)) (o.at'))++m)).length=(aV (bV .new (l.take k)) (o.at')).length+m.length:=ad;have hm1:m.length=1:=by omega
 refine fG 1 rfl rfl (by omega) (λgz capz hvz hcapz=>?_);refine tq (jt rfl rfl) ?_;refine tq (jt rfl rfl) ?_;refine tq (jt rfl rfl) ?_;refine tq (cu rfl qR rfl hlua) ?_;refine tq (bv (r:=((aV (bV .new (l.take k)) (o.at')).length)*3) hvz rfl qR pP rfl rfl (by omega) (by omega) (by omega)) ?_;refine tq (a9 (r:=((aV (bV .new (l.take k)) (o.at')).length)*3+1) rfl D9 rfl Mg rfl rfl) ?_;refine tq (cV (v:=(.int .i64 ((((aV (bV .new (l.take k)) (o.at'))++m)[(aV (bV .new (l.take k)) (o.at')).length]'(by rw[ad];omega)).err))) rfl Tryz.underlying34 rfl rfl (dT 1 rfl hvz rfl) (G7 ((aV (bV .new (l.take k)) (o.at'))++m) (i:=(aV (bV .new (l.take k)) (o.at')).length) (by omega))) ?_;refine tq (jt rfl rfl) ?_;refine tq (PV.neq rfl rfl rfl) ?_;refine am (λh95=>?_) (λh95=>?_)
 · exact absurd (Gk (hcl (by omega) (by omega) h36) h78 _) h95
 refine tq (w5 rfl rfl rfl) ?_;refine tp (w5 rfl rfl rfl) ?_;refine nx J29 ?_;refine Ea rfl ?_;refine aQ ?_;refine ac J28 ?_;refine sr λ_ J30=>?_
 refine mv ?_;refine mv ?_;refine tq (jt rfl rfl) ?_;refine tq (LJ rfl rfl rfl) ?_;refine am (λh101=>?_) (λh101=>?_);refine tp (w5 rfl rfl rfl) ?_;refine mv ?_;refine tq (jt rfl rfl) ?_;refine tq (cu rfl qR rfl hlub) ?_;refine tq (jt rfl rfl) ?_;refine tq (cu rfl qR rfl hlua) ?_;refine tq (cw rfl rfl rfl (bI (by omega) (by omega))) ?_;refine tq (PV.gtr rfl rfl rfl) ?_;refine am (λh109=>?_) (λh109=>?_)
 · exact absurd h109 (by have h4:=xw (hcl (by omega) (by omega) h36);rw[ad];omega)
 refine tp (w5 rfl rfl rfl) ?_;refine nx J30 ?_;refine Ea rfl ?_;refine aQ ?_;refine ag ?_;refine ac J11 ?_;refine af ?_;refine tp (cw rfl rfl rfl (bI (by omega) (by omega))) ?_;refine mv ?_;refine au ?_
 exact aJ ((k+1):(Nat)) (by omega) (by show l.length- (k+1)<l.length-k;omega)
  (aS (aS (aS (bC rfl (by simp) (JU _)))))
  (λ_ s=>by rw[iZ .new l hkl,←ho];exact gP (ak [0] rfl s))
 refine tp (w5 rfl rfl rfl) ?_;refine mv ?_;refine pz (b:=false) rfl rfl rfl rfl (lb rfl) ?_;refine pz (b:=false) rfl rfl rfl rfl (lb rfl) ?_;refine pz (b:=false) rfl rfl rfl rfl (lb rfl) ?_;refine pz (b:=false) rfl rfl rfl rfl (lb rfl) ?_;refine pz (b:=false) rfl rfl rfl rfl (lb rfl) ?_;refine pz (b:=false) rfl rfl rfl rfl (lb rfl) ?_;refine tp (w5 rfl rfl rfl) ?_;refine nx J30 ?_;refine Ea rfl ?_;refine aQ ?_;refine ag ?_;refine ac J11 ?_;refine af ?_;refine tp (cw rfl rfl rfl (bI (by omega) (by omega))) ?_;refine mv ?_;refine au ?_
 exact aJ ((k+1):(Nat)) (by omega) (by show l.length- (k+1)<l.length-k;omega)
  (aS (aS (aS (bC rfl (by simp) (JU _)))))
  (λ_ s=>by rw[iZ .new l hkl,←ho];exact gP (ak [0] rfl s))
 refine tp (w5 rfl rfl rfl) ?_;refine mv ?_;refine pz (b:=false) rfl rfl rfl rfl (lb rfl) ?_;refine pz (b:=false) rfl rfl rfl rfl (lb rfl) ?_;refine pz (b:=false) rfl rfl rfl rfl (lb rfl) ?_;refine pz (b:=false) rfl rfl rfl rfl (lb rfl) ?_;refine pz (b:=false) rfl rfl rfl rfl (lb rfl) ?_;refine pz (b:=false) rfl rfl rfl rfl (lb rfl) ?_;refine pz (b:=false) rfl rfl rfl rfl (lb rfl) ?_;refine bn rfl rfl rfl rfl (lb rfl) ?_;refine bn rfl rfl rfl rfl (lb rfl) ?_;refine bn rfl rfl rfl rfl (lb rfl) ?_;refine bn rfl rfl rfl rfl (lb rfl) ?_;refine bn rfl rfl rfl rfl (lb rfl) ?_;refine bn rfl rfl rfl rfl (lb rfl) ?_;refine bn rfl rfl rfl rfl (lb rfl) ?_;refine bn rfl rfl rfl rfl (lb rfl) ?_;refine pz (b:=false) rfl rfl rfl rfl (lb rfl) ?_;refine tp (w5 rfl rfl rfl) ?_;refine nx J29 ?_;refine Ea rfl ?_;refine aQ ?_;refine ac J28 ?_;refine sr λ_ J31=>?_
 refine mv ?_;refine mv ?_;refine tq (jt rfl rfl) ?_;refine tq (LJ rfl rfl rfl) ?_;refine am (λh101=>?_) (λh101=>?_);refine tp (w5 rfl rfl rfl) ?_;refine mv ?_;refine tq (jt rfl rfl) ?_;refine tq (cu rfl qR rfl hlub) ?_;refine tq (jt rfl rfl) ?_;refine tq (cu rfl qR rfl hlua) ?_;refine tq (cw rfl rfl rfl (bI (by omega) (by omega))) ?_;refine tq (PV.gtr rfl rfl rfl) ?_;refine am (λh109=>?_) (λh109=>?_)
 · exact absurd h109 (by have h4:=xw (hcl (by omega) (by omega) h36);rw[ad];omega)
 refine tp (w5 rfl rfl rfl) ?_;refine nx J31 ?_;refine Ea rfl ?_;refine aQ ?_;refine ag ?_;refine ac J11 ?_;refine af ?_;refine tp (cw rfl rfl rfl (bI (by omega) (by omega))) ?_;refine mv ?_;refine au ?_
 exact aJ ((k+1):(Nat)) (by omega) (by show l.length- (k+1)<l.length-k;omega)
  (aS (aS (aS (bC rfl (by simp) (JU _)))))
  (λ_ s=>by rw[iZ .new l hkl,←ho];exact gP (ak [0] rfl s))
 refine tp (w5 rfl rfl rfl) ?_;refine mv ?_;refine pz (b:=false) rfl rfl rfl rfl (lb rfl) ?_;refine pz (b:=false) rfl rfl rfl rfl (lb rfl) ?_;refine pz (b:=false) rfl rfl rfl rfl (lb rfl) ?_;refine pz (b:=false) rfl rfl rfl rfl (lb rfl) ?_;refine pz (b:=false) rfl rfl rfl rfl (lb rfl) ?_;refine pz (b:=false) rfl rfl rfl rfl (lb rfl) ?_;refine tp (w5 rfl rfl rfl) ?_;refine nx J31 ?_;refine Ea rfl ?_;refine aQ ?_;refine ag ?_;refine ac J11 ?_;refine af ?_;refine tp (cw rfl rfl rfl (bI (by omega) (by omega))) ?_;refine mv ?_;refine au ?_
 exact aJ ((k+1):(Nat)) (by omega) (by show l.length- (k+1)<l.length-k;omega)
  (aS (aS (aS (bC rfl (by simp) (JU _)))))
  (λ_ s=>by rw[iZ .new l hkl,←ho];exact gP (ak [0] rfl s))
 refine tp (w5 rfl rfl rfl) ?_;refine mv ?_;refine pz (b:=false) rfl rfl rfl rfl (lb rfl) ?_;refine tp (w5 rfl rfl rfl) ?_;refine oD ?_;refine nx J27 ?_;refine aa λ_ J32=>?_
 refine sr λ_ J33=>?_
 refine mv ?_;refine mv ?_;refine pz (b:=false) rfl rfl rfl rfl (lb rfl) ?_;refine pz (b:=false) rfl rfl rfl rfl (lb rfl) ?_;refine tp (w5 rfl rfl rfl) ?_;refine mv ?_;refine pz (b:=false) rfl rfl rfl rfl (lb rfl) ?_;refine pz (b:=false) rfl rfl rfl rfl (lb rfl) ?_;refine pz (b:=false) rfl rfl rfl rfl (lb rfl) ?_;refine pz (b:=false) rfl rfl rfl rfl (lb rfl) ?_;refine pz (b:=false) rfl rfl rfl rfl (lb rfl) ?_;refine pz (b:=false) rfl rfl rfl rfl (lb rfl) ?_;refine pz (b:=false) rfl rfl rfl rfl (lb rfl) ?_;refine bn rfl rfl rfl rfl (lb rfl) ?_;refine bn rfl rfl rfl rfl (lb rfl) ?_;refine bn rfl rfl rfl rfl (lb rfl) ?_;refine bn rfl rfl rfl rfl (lb rfl) ?_;refine bn rfl rfl rfl rfl (lb rfl) ?_;refine bn rfl rfl rfl rfl (lb rfl) ?_;refine bn rfl rfl rfl rfl (lb rfl) ?_;refine bn rfl rfl rfl rfl (lb rfl) ?_;refine pz (b:=false) rfl rfl rfl rfl (lb rfl) ?_;refine tp (w5 rfl rfl rfl) ?_;refine nx J33 ?_;refine Ea rfl ?_;refine aQ ?_;refine ac J32 ?_;refine sr λ_ J34=>?_
 refine mv ?_;refine mv ?_;refine pz (b:=false) rfl rfl rfl rfl (lb rfl) ?_;refine pz (b:=false) rfl rfl rfl rfl (lb rfl) ?_;refine tp (w5 rfl rfl rfl) ?_;refine mv ?_;refine pz (b:=false) rfl rfl rfl rfl (lb rfl) ?_;refine pz (b:=false) rfl rfl rfl rfl (lb rfl) ?_;refine pz (b:=false) rfl rfl rfl rfl (lb rfl) ?_;refine pz (b:=false) rfl rfl rfl rfl (lb rfl) ?_;refine pz (b:=false) rfl rfl rfl rfl (lb rfl) ?_;refine pz (b:=false) rfl rfl rfl rfl (lb rfl) ?_;refine tp (w5 rfl rfl rfl) ?_;refine nx J34 ?_;refine Ea rfl ?_;refine aQ ?_;refine ag ?_;refine ac J11 ?_;refine af ?_;refine tp (cw rfl rfl rfl (bI (by omega) (by omega))) ?_;refine mv ?_;refine au ?_
 exact aJ ((k+1):(Nat)) (by omega) (by show l.length- (k+1)<l.length-k;omega)
  (aS (aS (aS (bC rfl (by simp) (JU _)))))
  (λ_ s=>by rw[iZ .new l hkl,←ho];exact gP (ak [0] rfl s))
 refine mv ?_;refine pz (b:=false) rfl rfl rfl rfl (lb rfl) ?_;refine pz (b:=false) rfl rfl rfl rfl (lb rfl) ?_;refine pz (b:=false) rfl rfl rfl rfl (lb rfl) ?_;refine tp (w5 rfl rfl rfl) ?_;refine mv ?_;refine pz (b:=false) rfl rfl rfl rfl (lb rfl) ?_;refine tp (w5 rfl rfl rfl) ?_;refine oD ?_;refine nx J27 ?_;refine aa λ_ J35=>?_
 refine sr λ_ J36=>?_
 refine mv ?_;refine mv ?_;refine pz (b:=false) rfl rfl rfl rfl (lb rfl) ?_;refine pz (b:=false) rfl rfl rfl rfl (lb rfl) ?_;refine tp (w5 rfl rfl rfl) ?_;refine mv ?_;refine pz (b:=false) rfl rfl rfl rfl (lb rfl) ?_;refine pz (b:=false) rfl rfl rfl rfl (lb rfl) ?_;refine pz (b:=false) rfl rfl rfl rfl (lb rfl) ?_;refine pz (b:=false) rfl rfl rfl rfl (lb rfl) ?_;refine pz (b:=false) rfl rfl rfl rfl (lb rfl) ?_;refine pz (b:=false) rfl rfl rfl rfl (lb rfl) ?_;refine pz (b:=false) rfl rfl rfl rfl (lb rfl) ?_;refine bn rfl rfl rfl rfl (lb rfl) ?_;refine bn rfl rfl rfl rfl (lb rfl) ?_;refine bn rfl rfl rfl rfl (lb rfl) ?_;refine bn rfl rfl rfl rfl (lb rfl) ?_;refine bn rfl rfl rfl rfl (lb rfl) ?_;refine bn rfl rfl rfl rfl (lb rfl) ?_;refine bn rfl rfl rfl rfl (lb rfl) ?_;refine bn rfl rfl rfl rfl (lb rfl) ?_;refine pz (b:=false) rfl rfl rfl rfl (lb rfl) ?_;refine tp (w5 rfl rfl rfl) ?_;refine nx J36 ?_;refine Ea rfl ?_;refine aQ ?_;refine ac J35 ?_;refine sr λ_ J37=>?_
 refine mv ?_;refine mv ?_;refine pz (b:=false) rfl rfl rfl rfl (lb rfl) ?_;refine pz (b:=false) rfl rfl rfl rfl (lb rfl) ?_;refine tp (w5 rfl rfl rfl) ?_;refine mv ?_;refine pz (b:=false) rfl rfl rfl rfl (lb rfl) ?_;refine pz (b:=false) rfl rfl rfl rfl (lb rfl) ?_;refine pz (b:=false) rfl rfl rfl rfl (lb rfl) ?_;refine pz (b:=false) rfl rfl rfl rfl (lb rfl) ?_;refine pz (b:=false) rfl rfl rfl rfl (lb rfl) ?_;refine pz (b:=false) rfl rfl rfl rfl (lb rfl) ?_;refine tp (w5 rfl rfl rfl) ?_;refine nx J37 ?_;refine Ea rfl ?_;refine aQ ?_;refine ag ?_;refine ac J11 ?_;refine af ?_;refine tp (cw rfl rfl rfl (bI (by omega) (by omega))) ?_;refine mv ?_;refine au ?_
 exact aJ ((k+1):(Nat)) (by omega) (by show l.length- (k+1)<l.length-k;omega)
  (aS (aS (aS (bC rfl (by simp) (JU _)))))
  (λ_ s=>by rw[iZ .new l hkl,←ho];exact gP (ak [0] rfl s))
 refine oD ?_;refine nx J14 ?_;refine sr λ_ J38=>?_
 refine mv ?_;refine tp (aK (vs:=ints o.flat) rfl eZ rfl yw rfl (eR 2 rfl rfl) (Bx o) (bk (Bx o))) ?_;refine cp (H':=[fx c (bV .new (l.take k)),own ua (((aV (bV .new (l.take k)) (o.at'))).length) (ints (List.flatMap ReplyT.flat ((aV (bV .new (l.take k)) (o.at'))))) 37 3,aj b5 (ints o.flat) 30]) (λ_ s=>gP s) ?_;refine kl (ab rfl) rfl rfl rfl GA rfl (pm (c:=c) (a:=bV .new (l.take k)) (o:=o) hck (by omega) hoo) (λ_ s=>s) (λ_ _ _=>trivial) (λvR HR hR=>?_);obtain⟨rfl,rfl⟩:=hR;refine oD ?_;refine nx J38 ?_;refine sr λ_ J39=>?_
 refine mv ?_;refine tp (a9 (r:=1) rfl eZ rfl aO rfl rfl) ?_;refine tp (gR (v:=(.int .i64 (o.at'))) rfl Y3 rfl rfl (eR 2 rfl rfl) (bt o rfl)) ?_;refine Bq (H':=λg2:CX=>[eO c ((nG (bV .new (l.take k)) o).1) g2,own ua (((aV (bV .new (l.take k)) (o.at'))).length) (ints (List.flatMap ReplyT.flat ((aV (bV .new (l.take k)) (o.at'))))) 37 3,aj b5 (ints o.flat) 30]) (λ_ s=>nw s) (λg2=>?_);refine kl (ab rfl) rfl rfl rfl GD rfl (qm (xX hck hoo) (by omega) (o.at')) (λ_ s=>s) (λ_ _ _=>trivial) (λvR HR hR=>?_);obtain⟨_,h1ub,rfl,rfl⟩:=hR;revert vR;intro ub h1ub;rw[hm];refine fY 1 rfl rfl (λhlub _=>?_);refine oD ?_;refine nx J39 ?_;refine aa λ_ J40=>?_
 refine sr λ_ J41=>?_
 refine mv ?_;refine tp (cu rfl qR rfl hlub) ?_;refine mv ?_;refine tp (cu rfl qR rfl hlua) ?_;refine tp (PV.lss rfl rfl rfl) ?_;refine am (λh48=>?_) (λh48=>?_)
 · exact absurd h48 (by rw[ad];omega)
 refine nx J41 ?_;refine Ea rfl ?_;refine aQ ?_;refine ac J40 ?_;refine aa λ_ J42=>?_
 refine sr λ_ J43=>?_
 refine mv ?_;refine tp (cu rfl qR rfl hlua) ?_;refine mv ?_;refine nx J43 ?_;refine ap ?_
 refine bB (α:=(Nat)) (λj=>j≤(aV (bV .new (l.take k)) (o.at')).length) (λj=>[(3,(.pointer (some ⟨c,0,none⟩))),(5,(.pointer (some ⟨b5,0,none⟩))),(6,ua),(7,(.bool false)),(8,(.int .i64 ((nG (bV .new (l.take k)) o).2))),(9,ub),(23,x),(24,(.int .i64 (((l.length:Nat):Int)))),(25,(.int .i64 (((k:Nat):Int)))),(50,(.int .i64 ((((aV (bV .new (l.take k)) (o.at')).length:Nat):Int)))),(51,(.int .i64 (((j:Nat):Int))))]) (λj=>[eO c ((nG (bV .new (l.take k)) o).1) g2,own ub ((((aV (bV .new (l.take k)) (o.at'))++m)).length) (ints (List.flatMap ReplyT.flat (((aV (bV .new (l.take k)) (o.at'))++m)))) 37 3,own ua (((aV (bV .new (l.take k)) (o.at'))).length) (ints (List.flatMap ReplyT.flat ((aV (bV .new (l.take k)) (o.at'))))) 37 3,aj b5 (ints o.flat) 30]) (λj=>(aV (bV .new (l.take k)) (o.at')).length-j) 0
  (aN _) (aS (aS (aS (aS (aS (aS (aS (aS (aS (aS (bC rfl (by congr 1) (JU _))))))))))))
  (λ_ s=>s) (λj hinv=>?_)
 obtain hj:=hinv;refine sr λ_ J44=>?_
 refine tp (PV.lss rfl rfl rfl) ?_;refine am (λh52=>?_) (λh52=>?_);have hlm:(((aV (bV .new (l.take k)) (o.at'))++m)).length=(aV (bV .new (l.take k)) (o.at')).length+m.length:=ad;refine fG 2 rfl rfl (by omega) (λgua capua hvua hcapua=>?_);refine fG 1 rfl rfl (by omega) (λgub capub hvub hcapub=>?_);refine nx J44 ?_;refine aa λ_ J45=>?_
 refine mC rfl ?_;refine aQ ?_;refine ac J45 ?_;refine aa λ_ J46=>?_
 refine ap ?_;refine sr λ_ J47=>?_
 refine mv ?_;refine oD ?_;refine nx J47 ?_;refine aa λ_ J48=>?_
 refine eJ (α:=Unit) (λ_u=>(¬(((((aV (bV .new (l.take k)) (o.at'))++m)[j]'(by rw[ad];omega)).flat)≠(((aV (bV .new (l.take k)) (o.at'))[j]'(by omega)).flat)))) (λ_u=>[(3,(.pointer (some ⟨c,0,none⟩))),(5,(.pointer (some ⟨b5,0,none⟩))),(6,ua),(7,(.bool false)),(8,(.int .i64 ((nG (bV .new (l.take k)) o).2))),(9,ub),(23,x),(24,(.int .i64 (((l.length:Nat):Int)))),(25,(.int .i64 (((k:Nat):Int)))),(50,(.int .i64 ((((aV (bV .new (l.take k)) (o.at')).length:Nat):Int)))),(51,(.int .i64 (((j:Nat):Int)))),(62,(.bool false))]) (λ_u=>[eO c ((nG (bV .new (l.take k)) o).1) g2,own ub ((((aV (bV .new (l.take k)) (o.at'))++m)).length) (ints (List.flatMap ReplyT.flat (((aV (bV .new (l.take k)) (o.at'))++m)))) 37 3,own ua (((aV (bV .new (l.take k)) (o.at'))).length) (ints (List.flatMap ReplyT.flat ((aV (bV .new (l.take k)) (o.at'))))) 37 3,aj b5 (ints o.flat) 30]) (λ_u hinv=>?_) (λtl48=>?_);have h62:=hinv;refine ac J48 ?_;refine Ea rfl ?_;refine aQ ?_;refine ag ?_;refine ac J46 ?_;refine af ?_;refine tp (cw rfl rfl rfl (bI (by omega) (by omega))) ?_;refine mv ?_;refine au ?_
 exact aJ ((j+1):(Nat)) (by omega) (by show(aV (bV .new (l.take k)) (o.at')).length- (j+1)< (aV (bV .new (l.take k)) (o.at')).length-j;omega)
  (aS (aS (aS (aS (aS (aS (aS (aS (aS (aS (bC rfl (by simp) (JU _))))))))))))
  (λ_ s=>s)
 refine qL (λw=>Frm F w∧True) dC rfl (λ_ s=>⟨e5 s,trivial⟩) ?_;refine ta 0 rfl (jt rfl rfl) ?_;refine ta 1 rfl (jt rfl rfl) ?_;refine ta 2 rfl (bv (r:=j*3) hvub rfl qR pP rfl rfl (by omega) (by omega) (by omega)) ?_;refine ta 4 rfl (jt rfl rfl) ?_;refine ta 5 rfl (jt rfl rfl) ?_;refine ta 6 rfl (bv (r:=j*3) hvua rfl qR pP rfl rfl (by omega) (by omega) (by omega)) ?_;refine cJ [3,7] (by kernel_rfl) rfl ?_;refine aF rfl ?_ ?_;refine tp (jG (vs:=ints (((aV (bV .new (l.take k)) (o.at'))++m)[j]'(by rw[ad];omega)).flat) rfl D9 rfl pP rfl (dT 1 rfl hvub rfl) (cI _) (jz fp ((aV (bV .new (l.take k)) (o.at'))++m) (by rw[ad];omega))) ?_;refine au ?_;refine tG (λ_ s=>⟨e5 s,trivial⟩) ?_;refine cJ [7] (by kernel_rfl) rfl ?_;refine aF rfl ?_ ?_;refine tp (jG (vs:=ints ((aV (bV .new (l.take k)) (o.at'))[j]'(by omega)).flat) rfl D9 rfl pP rfl (dT 2 rfl hvua rfl) (cI _) (jz fp (aV (bV .new (l.take k)) (o.at')) (by omega))) ?_;refine au ?_;refine tG (λ_ s=>⟨e5 s,trivial⟩) ?_
 refine ta 8 rfl (oy (a:=(((aV (bV .new (l.take k)) (o.at'))++m)[j]'(by rw[ad];omega)).flat) (b:=((aV (bV .new (l.take k)) (o.at'))[j]'(by omega)).flat) (m:=3) (c:=3) HQ HO rfl Ij (ct (cI (((aV (bV .new (l.take k)) (o.at'))++m)[j]'(by rw[ad];omega)))) (ct (cI ((aV (bV .new (l.take k)) (o.at'))[j]'(by omega)))) ⟨eC AV Bi (ct (cI (((aV (bV .new (l.take k)) (o.at'))++m)[j]'(by rw[ad];omega)))),eC AV Bi (ct (cI ((aV (bV .new (l.take k)) (o.at'))[j]'(by omega))))⟩ (o5 hwk1 (by rw[hm];exact bZ ..)) (o5 hwk (bZ ..)) rfl rfl rfl) ?_;refine gF (λh62=>?_) (λh62=>?_)
 · exact absurd (by rw[jj]) h62
 refine TD.done (by kernel_rfl) ?_
 exact aE
  (aS (aS (aS (aS (aS (aS (aS (aS (aS (aS (aS (aS (JU _)))))))))))))
  (λ_ s=>s)
  (tl48 (():Unit) h62)
 exact bD;refine aF rfl ?_ ?_;refine tp (jG (vs:=ints ((aV (bV .new (l.take k)) (o.at'))[j]'(by omega)).flat) rfl D9 rfl pP rfl (dT 2 rfl hvua rfl) (cI _) (jz fp (aV (bV .new (l.take k)) (o.at')) (by omega))) ?_;refine au ?_;refine tG (λ_ s=>⟨e5 s,trivial⟩) ?_;refine cJ [3] (by kernel_rfl) rfl ?_;refine aF rfl ?_ ?_;refine tp (jG (vs:=ints (((aV (bV .new (l.take k)) (o.at'))++m)[j]'(by rw[ad];omega)).flat) rfl D9 rfl pP rfl (dT 1 rfl hvub rfl) (cI _) (jz fp ((aV (bV .new (l.take k)) (o.at'))++m) (by rw[ad];omega))) ?_;refine au ?_;refine tG (λ_ s=>⟨e5 s,trivial⟩) ?_;refine ta 8 rfl (oy (a:=(((aV (bV .new (l.take k)) (o.at'))++m)[j]'(by rw[ad];omega)).flat) (b:=((aV (bV .new (l.take k)) (o.at'))[j]'(by omega)).flat) (m:=3) (c:=3) HQ HO rfl Ij (ct (cI (((aV (bV .new (l.take k)) (o.at'))++m)[j]'(by rw[ad];omega)))) (ct (cI ((aV (bV .new (l.take k)) (o.at'))[j]'(by omega)))) ⟨eC AV Bi (ct (cI (((aV (bV .new (l.take k)) (o.at'))++m)[j]'(by rw[ad];omega)))),eC AV Bi (ct (cI ((aV (bV .new (l.take k)) (o.at'))[j]'(by omega))))⟩ (o5 hwk1 (by rw[hm];exact bZ ..)) (o5 hwk (bZ ..)) rfl rfl rfl) ?_;refine gF (λh62=>?_) (λh62=>?_)
 · exact absurd (by rw[jj]) h62
 refine TD.done (by kernel_rfl) ?_
 exact aE
  (aS (aS (aS (aS (aS (aS (aS (aS (aS (aS (aS (aS (JU _)))))))))))))
  (λ_ s=>s)
  (tl48 (():Unit) h62)
 exact bD;exact bD;refine nx J44 ?_;refine aa λ_ J49=>?_
 refine Ea rfl ?_;refine aZ ?_;refine aB ?_;refine aB ?_;refine bw ?_;refine ac J42 ?_;refine sr λ_ J50=>?_
 refine tp (a9 (r:=0) rfl eZ rfl aO rfl rfl) ?_;refine tp (gR (v:=(.int .i64 (o.kind))) rfl Y3 rfl rfl (eR 3 rfl rfl) (cq o rfl)) ?_;refine tp (PV.geq rfl rfl rfl) ?_;refine am (λh66=>?_) (λh66=>?_);refine mv ?_;refine tq (a9 (r:=0) rfl eZ rfl aO rfl rfl) ?_;refine tq (gR (v:=(.int .i64 (o.kind))) rfl Y3 rfl rfl (eR 3 rfl rfl) (cq o rfl)) ?_;refine tq (PV.leq rfl rfl rfl) ?_;refine am (λh70=>?_) (λh70=>?_);refine tp (w5 rfl rfl rfl) ?_;refine mv ?_;refine tq (jt rfl rfl) ?_;refine tp (w5 rfl rfl rfl) ?_;refine oD ?_;refine nx J50 ?_;refine aa λ_ J51=>?_
 refine sr λ_ J52=>?_
 refine mv ?_;refine mv ?_;refine pz (b:=false) rfl rfl rfl rfl (lb rfl) ?_;refine pz (b:=false) rfl rfl rfl rfl (lb rfl) ?_;refine tp (w5 rfl rfl rfl) ?_;refine mv ?_;refine pz (b:=false) rfl rfl rfl rfl (lb rfl) ?_;refine pz (b:=false) rfl rfl rfl rfl (lb rfl) ?_;refine pz (b:=false) rfl rfl rfl rfl (lb rfl) ?_;refine pz (b:=false) rfl rfl rfl rfl (lb rfl) ?_;refine pz (b:=false) rfl rfl rfl rfl (lb rfl) ?_;refine pz (b:=false) rfl rfl rfl rfl (lb rfl) ?_;refine pz (b:=false) rfl rfl rfl rfl (lb rfl) ?_;refine bn rfl rfl rfl rfl (lb rfl) ?_;refine bn rfl rfl rfl rfl (lb rfl) ?_;refine bn rfl rfl rfl rfl (lb rfl) ?_;refine bn rfl rfl rfl rfl (lb rfl) ?_;refine bn rfl rfl rfl rfl (lb rfl) ?_;refine bn rfl rfl rfl rfl (lb rfl) ?_;refine bn rfl rfl rfl rfl (lb rfl) ?_;refine bn rfl rfl rfl rfl (lb rfl) ?_;refine pz (b:=false) rfl rfl rfl rfl (lb rfl) ?_;refine tp (w5 rfl rfl rfl) ?_;refine nx J52 ?_;refine Ea rfl ?_;refine aQ ?_;refine ac J51 ?_;refine sr λ_ J53=>?_
 refine mv ?_;refine mv ?_;refine pz (b:=false) rfl rfl rfl rfl (lb rfl) ?_;refine pz (b:=false) rfl rfl rfl rfl (lb rfl) ?_;refine tp (w5 rfl rfl rfl) ?_;refine mv ?_;refine pz (b:=false) rfl rfl rfl rfl (lb rfl) ?_;refine pz (b:=false) rfl rfl rfl rfl (lb rfl) ?_;refine pz (b:=false) rfl rfl rfl rfl (lb rfl) ?_;refine pz (b:=false) rfl rfl rfl rfl (lb rfl) ?_;refine pz (b:=false) rfl rfl rfl rfl (lb rfl) ?_;refine pz (b:=false) rfl rfl rfl rfl (lb rfl) ?_;refine tp (w5 rfl rfl rfl) ?_;refine nx J53 ?_;refine Ea rfl ?_;refine aQ ?_;refine ag ?_;refine ac J11 ?_;refine af ?_;refine tp (cw rfl rfl rfl (bI (by omega) (by omega))) ?_;refine mv ?_;refine au ?_
 exact aJ ((k+1):(Nat)) (by omega) (by show l.length- (k+1)<l.length-k;omega)
  (aS (aS (aS (bC rfl (by simp) (JU _)))))
  (λ_ s=>by rw[iZ .new l hkl,←ho];exact gP (ak [0] rfl s))
 refine tp (w5 rfl rfl rfl) ?_;refine mv ?_;refine pz (b:=false) rfl rfl rfl rfl (lb rfl) ?_;refine tp (w5 rfl rfl rfl) ?_;refine oD ?_;refine nx J50 ?_;refine aa λ_ J54=>?_
 refine sr λ_ J55=>?_
 refine mv ?_;refine mv ?_;refine pz (b:=false) rfl rfl rfl rfl (lb rfl) ?_;refine pz (b:=false) rfl rfl rfl rfl (lb rfl) ?_;refine tp (w5 rfl rfl rfl) ?_;refine mv ?_;refine pz (b:=false) rfl rfl rfl rfl (lb rfl) ?_;refine pz (b:=false) rfl rfl rfl rfl (lb rfl) ?_;refine pz (b:=false) rfl rfl rfl rfl (lb rfl) ?_;refine pz (b:=false) rfl rfl rfl rfl (lb rfl) ?_;refine pz (b:=false) rfl rfl rfl rfl (lb rfl) ?_;refine pz (b:=false) rfl rfl rfl rfl (lb rfl) ?_;refine pz (b:=false) rfl rfl rfl rfl (lb rfl) ?_;refine bn rfl rfl rfl rfl (lb rfl) ?_;refine bn rfl rfl rfl rfl (lb rfl) ?_;refine bn rfl rfl rfl rfl (lb rfl) ?_;refine bn rfl rfl rfl rfl (lb rfl) ?_;refine bn rfl rfl rfl rfl (lb rfl) ?_;refine bn rfl rfl rfl rfl (lb rfl) ?_;refine bn rfl rfl rfl rfl (lb rfl) ?_;refine bn rfl rfl rfl rfl (lb rfl) ?_;refine pz (b:=false) rfl rfl rfl rfl (lb rfl) ?_;refine tp (w5 rfl rfl rfl) ?_;refine nx J55 ?_;refine Ea rfl ?_;refine aQ ?_;refine ac J54 ?_;refine sr λ_ J56=>?_
 refine mv ?_;refine mv ?_;refine pz (b:=false) rfl rfl rfl rfl (lb rfl) ?_;refine pz (b:=false) rfl rfl rfl rfl (lb rfl) ?_;refine tp (w5 rfl rfl rfl) ?_;refine mv ?_;refine pz (b:=false) rfl rfl rfl rfl (lb rfl) ?_;refine pz (b:=false) rfl rfl rfl rfl (lb rfl) ?_;refine pz (b:=false) rfl rfl rfl rfl (lb rfl) ?_;refine pz (b:=false) rfl rfl rfl rfl (lb rfl) ?_;refine pz (b:=false) rfl rfl rfl rfl (lb rfl) ?_;refine pz (b:=false) rfl rfl rfl rfl (lb rfl) ?_;refine tp (w5 rfl rfl rfl) ?_;refine nx J56 ?_;refine Ea rfl ?_;refine aQ ?_;refine ag ?_;refine ac J11 ?_;refine af ?_;refine tp (cw rfl rfl rfl (bI (by omega) (by omega))) ?_;refine mv ?_;refine au ?_
 exact aJ ((k+1):(Nat)) (by omega) (by show l.length- (k+1)<l.length-k;omega)
  (aS (aS (aS (bC rfl (by simp) (JU _)))))
  (λ_ s=>by rw[iZ .new l hkl,←ho];exact gP (ak [0] rfl s))
 refine mv ?_;refine pz (b:=false) rfl rfl rfl rfl (lb rfl) ?_;refine pz (b:=false) rfl rfl rfl rfl (lb rfl) ?_;refine pz (b:=false) rfl rfl rfl rfl (lb rfl) ?_;refine tp (w5 rfl rfl rfl) ?_;refine mv ?_;refine pz (b:=false) rfl rfl rfl rfl (lb rfl) ?_;refine tp (w5 rfl rfl rfl) ?_;refine oD ?_;refine nx J50 ?_;refine aa λ_ J57=>?_
 refine sr λ_ J58=>?_
 refine mv ?_;refine mv ?_;refine pz (b:=false) rfl rfl rfl rfl (lb rfl) ?_;refine pz (b:=false) rfl rfl rfl rfl (lb rfl) ?_;refine tp (w5 rfl rfl rfl) ?_;refine mv ?_;refine pz (b:=false) rfl rfl rfl rfl (lb rfl) ?_;refine pz (b:=false) rfl rfl rfl rfl (lb rfl) ?_;refine pz (b:=false) rfl rfl rfl rfl (lb rfl) ?_;refine pz (b:=false) rfl rfl rfl rfl (lb rfl) ?_;refine pz (b:=false) rfl rfl rfl rfl (lb rfl) ?_;refine pz (b:=false) rfl rfl rfl rfl (lb rfl) ?_;refine pz (b:=false) rfl rfl rfl rfl (lb rfl) ?_;refine bn rfl rfl rfl rfl (lb rfl) ?_;refine bn rfl rfl rfl rfl (lb rfl) ?_;refine bn rfl rfl rfl rfl (lb rfl) ?_;refine bn rfl rfl rfl rfl (lb rfl) ?_;refine bn rfl rfl rfl rfl (lb rfl) ?_;refine bn rfl rfl rfl rfl (lb rfl) ?_;refine bn rfl rfl rfl rfl (lb rfl) ?_;refine bn rfl rfl rfl rfl (lb rfl) ?_;refine pz (b:=false) rfl rfl rfl rfl (lb rfl) ?_;refine tp (w5 rfl rfl rfl) ?_;refine nx J58 ?_;refine Ea rfl ?_;refine aQ ?_;refine ac J57 ?_;refine sr λ_ J59=>?_
 refine mv ?_;refine mv ?_;refine pz (b:=false) rfl rfl rfl rfl (lb rfl) ?_;refine pz (b:=false) rfl rfl rfl rfl (lb rfl) ?_;refine tp (w5 rfl rfl rfl) ?_;refine mv ?_;refine pz (b:=false) rfl rfl rfl rfl (lb rfl) ?_;refine pz (b:=false) rfl rfl rfl rfl (lb rfl) ?_;refine pz (b:=false) rfl rfl rfl rfl (lb rfl) ?_;refine pz (b:=false) rfl rfl rfl rfl (lb rfl) ?_;refine pz (b:=false) rfl rfl rfl rfl (lb rfl) ?_;refine pz (b:=false) rfl rfl rfl rfl (lb rfl) ?_;refine tp (w5 rfl rfl rfl) ?_;refine nx J59 ?_;refine Ea rfl ?_;refine aQ ?_;refine ag ?_;refine ac J11 ?_;refine af ?_;refine tp (cw rfl rfl rfl (bI (by omega) (by omega))) ?_;refine mv ?_;refine au ?_
 exact aJ ((k+1):(Nat)) (by omega) (by show l.length- (k+1)<l.length-k;omega)
  (aS (aS (aS (bC rfl (by simp) (JU _)))))
  (λ_ s=>by rw[iZ .new l hkl,←ho];exact gP (ak [0] rfl s))
 refine nx J9 ?_;refine aa λ_ J60=>?_
 refine Ea rfl ?_;refine aZ ?_;refine aB ?_;refine aB ?_;refine bw ?_;refine ac J7 ?_;refine aa λ_ J61=>?_
 refine sr λ_ J62=>?_
 obtain rfl:k=l.length:=by omega
 rw[g8];have hcl:CLOk l.length (bV .new l):=(B6 l new_ok hok).more (by omega);have hrl:RepsOk l.length (bV .new l):=(ql l new_ok qu hok (by omega)).more (by omega);refine Bq (H':=λg:CX=>[eO c (bV .new l) g]) (λ_ s=>nw s) (λg=>?_);refine mv ?_;refine nx J62 ?_;refine ap ?_
 refine bB (α:=(Nat)) (λi=>i≤5) (λi=>[(3,(.pointer (some ⟨c,0,none⟩))),(112,(.int .i64 (((i:Nat):Int))))]) (λi=>[eO c (bV .new l) g]) (λi=>5-i) 0
  (aN _) (aS (bC rfl (by congr 1) (JU _)))
  (λ_ s=>s) (λi hinv=>?_)
 obtain hi:=hinv;refine sr λ_ J63=>?_
 refine tp (PV.lss rfl rfl rfl) ?_;refine am (λh113=>?_) (λh113=>?_);refine nx J63 ?_;refine aa λ_ J64=>?_
 refine mC rfl ?_;refine aQ ?_;refine ac J64 ?_;refine aa λ_ J65=>?_
 refine ap ?_;refine sr λ_ J66=>?_
 refine mv ?_;refine oD ?_;refine nx J66 ?_;refine sr λ_ J67=>?_
 refine mv ?_;refine mv ?_;refine kl (ab rfl) rfl rfl rfl KP rfl (Co (i:=i) (by omega)) (λ_ s=>s) (λ_ _ _=>trivial) (λvR HR hR=>?_);rcases hR with⟨hup,rfl,rfl⟩| ⟨s,hrun,hup,rfl,rfl⟩
 refine oD ?_;refine nx J67 ?_;refine aa λ_ J68=>?_
 refine sr λ_ J69=>?_
 refine mv ?_;refine tp (M7 rfl yd rfl rfl) ?_;refine nx J69 ?_;refine mC rfl ?_;refine aZ ?_;refine aB ?_;refine bw ?_;refine ac J65 ?_;refine af ?_;refine tp (cw rfl rfl rfl (bI (by omega) (by omega))) ?_;refine mv ?_;refine au ?_
 exact aJ ((i+1):(Nat)) (by omega) (by show 5- (i+1)<5-i;omega)
  (aS (bC rfl (by simp) (JU _)))
  (λ_ s=>ak [0] rfl s)
 refine oD ?_;refine nx J67 ?_;refine aa λ_ J70=>?_
 refine sr λ_ J71=>?_
 refine mv ?_;refine tp (jF rfl yd rfl rfl) ?_;refine nx J71 ?_;refine Ea rfl ?_;refine aQ ?_;refine ac J70 ?_;refine sr λ_ J72=>?_
 refine TL.makeMap (ab rfl) rfl rfl rfl (λm120=>?_);refine oD ?_;refine nx J72 ?_;refine sr λ_ J73=>?_
 refine mv ?_;have hro:=hrl.ok _ _ hrun;have hrs:s.replies.length≤l.length:=by have h1:=(hcl.at' i (by omega)).reps;rw[gL hrun,ad]at h1;omega
 refine kl (ab rfl) rfl rfl rfl KN rfl (yJ (by omega) hrun (by omega)) (λ_ s=>az [1] rfl s) (λ_ _ _=>trivial) (λvR HR hR=>?_);obtain⟨_,rfl,rfl⟩:=hR;revert vR;intro us;refine fY 1 rfl rfl (λhlus _=>?_);refine tp (cu rfl qR rfl hlus) ?_;refine mv ?_;refine nx J73 ?_;refine ap ?_
 refine bB (α:=(Nat)) (λj=>j≤s.replies.length) (λj=>[(3,(.pointer (some ⟨c,0,none⟩))),(14,(.map (some m120))),(112,(.int .i64 (((i:Nat):Int)))),(122,us),(123,(.int .i64 (((s.replies.length:Nat):Int)))),(124,(.int .i64 (((j:Nat):Int))))]) (λj=>[eO c (bV .new l) g,own us (s.replies.length) (ints (List.flatMap ReplyT.flat s.replies)) 37 3,jy m120 (xo (s.replies.take j))]) (λj=>s.replies.length-j) 0
  (aN _) (aS (aS (aS (aS (aS (bC rfl (by congr 1) (JU _)))))))
  (λ_ s=>s) (λj hinv=>?_)
 obtain hj:=hinv;refine sr λ_ J74=>?_
 refine tp (PV.lss rfl rfl rfl) ?_;refine am (λh125=>?_) (λh125=>?_);refine fG 1 rfl rfl (by omega) (λgs caps hvs hcaps=>?_);have hrj:=hro.r (s.replies[j]'(by omega)) (bZ ..);refine nx J74 ?_;refine aa λ_ J75=>?_
 refine mC rfl ?_;refine aQ ?_;refine ac J75 ?_;refine aa λ_ J76=>?_
 refine ap ?_;refine sr λ_ J77=>?_
 refine tp (bv (r:=j*3) hvs rfl qR pP rfl rfl (by omega) (by omega) (by omega)) ?_;refine tp (jG (vs:=ints (s.replies[j]'(by omega)).flat) rfl D9 rfl pP rfl (dT 1 rfl hvs rfl) (cI _) (jz fp s.replies (by omega))) ?_;refine pA (ab rfl) rfl rfl rfl M0 (λb16=>?_);change TL _ _ _ _ _ _ _ _ _ [aj b16 (ints ReplyT.zero.flat) 37,eO c (bV .new l) g,own us (s.replies.length) (ints (List.flatMap ReplyT.flat s.replies)) 37 3,jy m120 (xo (s.replies.take j))];refine ck (vs:=ints (s.replies[j]'(by omega)).flat) (i:=0) (ab rfl) rfl rfl rfl rfl rfl (by rw[(cI (s.replies[j]'(by omega)))];exact pP) (bG _) rfl rfl (by have h0:=(cI ReplyT.zero);have h1:=(cI (s.replies[j]'(by omega)));omega) (cz ((cI ReplyT.zero).trans (cI (s.replies[j]'(by omega))).symm)) rfl ?_;refine nx J77 ?_;refine aa λ_ J78=>?_
 refine sr λ_ J79=>?_
 refine tp (a9 (r:=0) rfl D9 rfl aO rfl rfl) ?_;refine tp (gR (v:=(.int .i64 ((s.replies[j]'(by omega)).op))) rfl Y3 rfl rfl (eR 0 rfl rfl) (M4 (s.replies[j]'(by omega)) rfl)) ?_;refine tp (PV.lss rfl rfl rfl) ?_;refine am (λh130=>?_) (λh130=>?_)
 · exact absurd h130 (by omega)
 refine mv ?_;refine tq (jt rfl rfl) ?_;refine tq (a9 (r:=0) rfl D9 rfl aO rfl rfl) ?_;refine tq (gR (v:=(.int .i64 ((s.replies[j]'(by omega)).op))) rfl Y3 rfl rfl (eR 0 rfl rfl) (M4 (s.replies[j]'(by omega)) rfl)) ?_;refine tq (PV.lookup rfl Tryz.underlying40 Y3 z4 rfl rfl (RdM.own 3 rfl rfl) (by rw[Gb hro (by omega)];try rfl)) ?_;refine tp (w5 rfl rfl rfl) ?_;refine nx J79 ?_;refine Ea rfl ?_;refine aQ ?_;refine ac J78 ?_;refine af ?_;refine mv ?_;refine tp (a9 (r:=0) rfl D9 rfl aO rfl rfl) ?_;refine tp (gR (v:=(.int .i64 ((s.replies[j]'(by omega)).op))) rfl Y3 rfl rfl (eR 0 rfl rfl) (M4 (s.replies[j]'(by omega)) rfl)) ?_;refine TL.mapUpdate (i:=3) (H':=[aj b16 (ints (s.replies[j]'(by omega)).flat) 37,eO c (bV .new l) g,own us (s.replies.length) (ints (List.flatMap ReplyT.flat s.replies)) 37 3,jy m120 (ou (xo (s.replies.take j)) ((s.replies[j]'(by omega)).op) (.bool true))]) (ab rfl) rfl rfl Tryz.underlying40 Y3 rfl rfl rfl rfl rfl (congrArg (λq=>List.set _ 3 (jy m120 q)) rfl) ?_;refine au ?_;refine ag ?_;refine ac J76 ?_;refine af ?_;refine tp (cw rfl rfl rfl (bI (by omega) (by omega))) ?_;refine mv ?_;refine au ?_
 exact aJ ((j+1):(Nat)) (by omega) (by show s.replies.length- (j+1)<s.replies.length-j;omega)
  (aS (aS (aS (aS (aS (bC rfl (by simp) (JU _)))))))
  (λ_ q=>by rw[B2 s.replies (by omega)];exact ak [1,1,1] rfl q)
 refine nx J74 ?_;refine aa λ_ J80=>?_
 refine Ea rfl ?_;refine aZ ?_;refine aB ?_;refine aB ?_;refine bw ?_;refine ag ?_;refine ac J65 ?_;refine af ?_;refine tp (cw rfl rfl rfl (bI (by omega) (by omega))) ?_;refine mv ?_;refine au ?_
 exact aJ ((i+1):(Nat)) (by omega) (by show 5- (i+1)<5-i;omega)
  (aS (bC rfl (by simp) (JU _)))
  (λ_ s=>ak [0] rfl s)
 refine nx J63 ?_;refine aa λ_ J81=>?_
 refine Ea rfl ?_;refine aZ ?_;refine aB ?_;refine aB ?_;refine bw ?_;refine ac J61 ?_;refine sr λ_ J82=>?_
 refine oD ?_;refine nx J82 ?_;refine ai ?_;refine aE (dE _) (λ_ s=>ak [] rfl s) ?_;refine aq rfl rfl ?_;exact⟨rfl,rfl⟩;refine tp (ln (r:=true) rfl rfl rfl) ?_;refine nx J5 ?_;refine mC rfl ?_;refine sr λ_ J83=>?_
 refine oD ?_;refine nx J83 ?_;refine ai ?_;refine ae ?_;refine aE (dE _) (λ_ s=>ak [] rfl s) ?_;refine aq rfl rfl ?_;exact⟨rfl,rfl⟩
theorem clusterReplies_row(x:Value)(l:List OpT):DT 3 #[x] (IsL 11 (EW OpT.flat) x l) [] (RI (.bool true) []):=λw F r m=>pR x l (Jq r) w F (I8 r).1 m
end Go.Proofs.YtjblgopghhgflaaGreat
end

section
namespace Api
open Go Leg Codec Wal
theorem OpT.of(l:List Int)(h:l.length=11): ∃x:OpT,x.flat=l:=by
 match l,h with
 | [a,b,c,d,e,f,g,i,j,k,m],_=>exact⟨⟨a,b,c,d,e,⟨f,g,i⟩,j,k,m⟩,rfl⟩
end Api
end
