/-
  Joined texts:what a statement's proof reaches.
-/
import Derived.Conc.LoneCalls
import Derived.Conc.LoneSelectN
import Derived.Test.YtjblgopghhgflaaGreatPAL4
set_option maxHeartbeats 8000000
set_option maxRecDepth 100000
set_option linter.unusedSimpArgs false
set_option linter.unusedVariables false
section
namespace Leg
open Go Codec Api
def WX(P:Program)(ops:Array Oper)(Q:QQ)(is:List Nat)(a:Act)(w:World):Prop:=
 ∀(b:Frame) (k:List Item) (cs:List Frame),∃e a' w',Q e a' w'∧Arrives P (lone (b.at a (.inRegion ops is::k)) cs w) b k cs e a' w'
theorem WX.nil{P:Program}{ops:Array Oper}{Q:QQ}{a:Act}{w:World}(h:Q .normal a w):WX P ops Q [] a w:=
 λ_ _ _=>⟨.normal,a,w,h, .one step_region_end⟩
theorem WX.region{P:Program}{id:Nat}{ops:Array Oper}{Q:QQ}{a:Act}{w:World}(h:WX P ops Q (List.range ops.size) a w):(Code.region id ops false).wp P Q a w:=
 λb k cs=>let ⟨e,a',w',q,r⟩:=h b k cs;⟨e,a',w',q, .of_steps (.one step_region) r⟩
section
variable {P:Program} {ops:Array Oper} {Q:QQ} {is:List Nat} {a:Act} {w:World} {i:Nat} {o:Oper}
theorem Ez(b:Frame)(k:List Item)(ho:ops[i]?=some o)(a:Act)(v:Value):(b.at a (.inRegion ops (i::is)::k)).finish v=b.at (a.put o.dst v) (.inRegion ops is::k):=by rw[Frame.finish_at,ho];rfl
theorem WX.value{v:Value}{w1:World}(ho:ops[i]?=some o)(hw:Region.wanted o (yielded ops a.tmps)=true)(hr:(execOp a.eval o).run P w= .ok (.value v) w1)(h:WX P ops Q is (a.put o.dst v) w1):WX P ops Q (i::is) a w:=λb k cs=>by
 obtain⟨e,a',w',q,r⟩:=h b k cs;refine⟨e,a',w',q, .of_steps (.one (step_lone_go ?_)) r⟩;rw[stepG_op ho hw,←Ez b k ho];simp[stepG.apply,hr]
theorem WX.comm{v:Value}{w1 w2:World}{cases:Array CommCase}{blocking:Bool}{shape:CommShape}(ho:ops[i]?=some o)(hw:Region.wanted o (yielded ops a.tmps)=true)(hr:(execOp a.eval o).run P w= .ok (.comm cases blocking shape) w1)
 (hs: ∀fr cs es,stepG P true (Conc.G fr cs) w= .comm (Conc.G fr cs) cases blocking shape w1 es→step P (Conc.solo (Conc.G fr cs) w)= .next (Conc.solo (Conc.G (fr.finish v) cs) w2)) (h:WX P ops Q is (a.put o.dst v) w2):WX P ops Q (i::is) a w:=λb k cs=>by
 obtain⟨e,a',w',q,r⟩:=h b k cs;have h1:=stepG_op (P:=P) (b:=b) (k:=k) (cs:=cs) (w:=w) (rest:=is) ho hw
 have h2: ∃es,stepG P true (Conc.G (b.at a (.inRegion ops (i::is)::k)) cs) w= .comm (Conc.G (b.at a (.inRegion ops (i::is)::k)) cs) cases blocking shape w1 es:=by
  unfold Conc.G;rw[h1];simp only[stepG.apply,Sem.runT_eq,hr];exact⟨_,rfl⟩
 obtain⟨es,h2⟩:=h2;have h3:=hs _ _ _ h2;rw[Ez b k ho]at h3;exact⟨e,a',w',q, .of_steps (.one h3) r⟩
abbrev KS:= @WX.comm
end
end Leg
namespace Leg
open Go Codec Api
section
variable (P:Program) (w0:World) (F:Hl) (n:Nat)
def TX(ops:Array Oper)(Q:QQ)(is:List Nat)(D:List Deferred)(L:List (Nat×Value))(H:List HP):Prop:=∀a w,Fr n D L a→Same w0 w→Sat H F w→WX P ops Q is a w
end
section
variable {P:Program} {w0:World} {F:Hl} {n:Nat} {ops:Array Oper} {Q:QQ} {is:List Nat} {D:List Deferred} {L:List (Nat×Value)} {H:List HP} {i d:Nat} {o:Oper}
theorem TC.regionX{id:Nat}{l:List Oper}(h:TX P w0 F n l.toArray Q (List.range l.length) D L H):TC P w0 F n (.region id l.toArray false) Q D L H:=
 λa w f s m=>WX.region (by simpa using h a w f s m)
abbrev xy:= @TC.regionX
theorem TX.nil(h:TE w0 F n Q .normal D L H):TX P w0 F n ops Q [] D L H:=λa w f s m=>WX.nil (h a w f s m)
abbrev Jf:= @TX.nil
theorem TX.v{v:Value}(ho:ops[i]?=some o)(hw:Want n D ops o L)(hd:o.dst=some d)(hn:Nat.blt d n=true)(h1:PV P n D L (Sat H F) o v)(h:TX P w0 F n ops Q is D ((d,v)::L) H):TX P w0 F n ops Q (i::is) D L H:=λa w f s m=>by
 refine WX.value ho (hw a f) (h1 a w f m) ?_;rw[hd];exact h _ _ (f.put (lb hn) _) s m
abbrev sy:= @TX.v
end
end Leg
namespace Leg
open Go Codec Api Go.Conc
section
variable {P:Program} {w0:World} {F:Hl} {n:Nat} {ops:Array Oper} {Q:QQ} {is:List Nat} {D:List Deferred} {L:List (Nat×Value)} {H:List HP} {i d:Nat} {o:Oper}
theorem Sat.chan{w:World}{c cap s r:Nat}{vs:List Value}(m:Sat H F w)(k:Nat)(hk:Nat.blt k H.length=true)(e:H.getD k (λ_=>True)=dW c cap vs s r):w.heap[c]?=some (.chan cap vs.toArray false s r false):=by
 obtain⟨h,d,e',x⟩:=m;obtain⟨h1,h2,d',rfl,a,_⟩:=eO k (lb hk) x;rw[e]at a
 have:hp w c=some (.chan cap vs.toArray false s r false):=by
  rw[e',iV];exact gH (by rw[show h1=sg c _ from a];simp[sg])
 exact this
theorem Sat.setChan{w:World}{c cap s r s' r':Nat}{vs vs':List Value}(m:Sat H F w)(k:Nat)(hk:Nat.blt k H.length=true)(e:H.getD k (λ_=>True)=dW c cap vs s r):Sat (H.set k (dW c cap vs' s' r')) F (w.setChan c cap vs'.toArray false s' r' false):=by
 have hc:=m.chan k hk e
 have hlt:c<w.heap.size:=by
  by_cases q:c<w.heap.size
  · exact q
  · rw[Array.getElem?_eq_none (by omega)]at hc;cases hc
 exact m.write k (lb hk) e (heap_setChan w c cap vs'.toArray false s' r' false hlt) (λj hj=>by simp[World.setChan,Array.getElem?_setIfInBounds,Ne.symm hj])
theorem Same.setChan{w w':World}(s:Same w w')(c cap:Nat)(b:Array Value)(cl:Bool)(x y:Nat)(t:Bool):Same w (w'.setChan c cap b cl x y t):=s.trans ⟨rfl,rfl,rfl,by simp[World.setChan]⟩
theorem rG{x:Operand}{so:Option Operand}{e:TypeId}{z:Value}{blocking:Bool}(ho:o.op= .select #[⟨x,so,e⟩] blocking)(hz:(P.info? e).map (·.zero)=some (some z))(ev:Operand→Value)(w:World):
 (execOp ev o).run P w= .ok (.comm #[{chan:=ev x,send:=so.map ev,zero:=z}] blocking .select) w:=by
 simp[execOp,ho,Sem.run_bind,nI hz]
theorem TX.sendRoom{x y:Operand}{e c cap s r:Nat}{z v:Value}{vs:List Value}(k:Nat)(ho:ops[i]?=some o)(hw:Want n D ops o L)(hop:o.op= .select #[⟨x,some y,e⟩] false)(hd:o.dst=some d)(hn:Nat.blt d n=true)(hz:(P.info? e).map (·.zero)=some (some z))
 (hx:cy L x=some (.chan (some c))) (hy:cy L y=some v) (hk:Nat.blt k H.length=true) (hH:H.getD k (λ_=>True)=dW c cap vs s r) (hroom:vs.length<cap)
 (h:TX P w0 F n ops Q is D ((d, .tuple #[.int .i64 0, .bool false])::L) (H.set k (dW c cap (vs++[v]) (s+1) r))):TX P w0 F n ops Q (i::is) D L H:=λa w f sm m=>by
 have hc:=m.chan k hk hH;have hr:=rG (P:=P) hop hz a.eval w;rw[f.eval hx]at hr;simp only[Option.map_some,f.eval hy]at hr;refine KS (v:= .tuple #[.int .i64 0, .bool false]) (w2:=w.setChan c cap (vs++[v]).toArray false (s+1) r false) ho (hw a f) hr (λfr cs es hs=>?_) ?_
 · have:=step_lone_sel_send_room (k:=0) hs rfl (λj c' hj hjc=>by cases j with|zero=>exact absurd rfl hj|succ j=>simp at hjc) hc (by simpa using hroom)
   rw[this];simp[commResult,goInt]
 · rw[hd]
   exact h _ _ (f.put (lb hn) _) (sm.setChan ..) (m.setChan k hk hH)
theorem TX.sendFull{x y:Operand}{e c cap s r:Nat}{z v:Value}{vs:List Value}(k:Nat)(ho:ops[i]?=some o)(hw:Want n D ops o L)(hop:o.op= .select #[⟨x,some y,e⟩] false)(hd:o.dst=some d)(hn:Nat.blt d n=true)(hz:(P.info? e).map (·.zero)=some (some z))
 (hx:cy L x=some (.chan (some c))) (hy:cy L y=some v) (hk:Nat.blt k H.length=true) (hH:H.getD k (λ_=>True)=dW c cap vs s r) (hfull:cap≤vs.length)
 (h:TX P w0 F n ops Q is D ((d, .tuple #[.int .i64 (-1), .bool false])::L) H):TX P w0 F n ops Q (i::is) D L H:=λa w f sm m=>by
 have hc:=m.chan k hk hH;have hr:=rG (P:=P) hop hz a.eval w;rw[f.eval hx]at hr;simp only[Option.map_some,f.eval hy]at hr;refine KS (v:= .tuple #[.int .i64 (-1), .bool false]) (w2:=w) ho (hw a f) hr (λfr cs es hs=>?_) ?_
 · have:=step_lone_sel_default hs (λcc hcc=>by
    obtain rfl:cc=scase c v z:=by simpa [scase]using hcc
    exact noWay_send hc (by simpa using hfull))
   rw[this];simp[commResult,goInt]
 · rw[hd]
   exact h _ _ (f.put (lb hn) _) sm m
theorem TX.recvBuf{x:Operand}{e c cap s r:Nat}{z v:Value}{vs:List Value}(k:Nat)(ho:ops[i]?=some o)(hw:Want n D ops o L)(hop:o.op= .select #[⟨x,none,e⟩] false)(hd:o.dst=some d)(hn:Nat.blt d n=true)(hz:(P.info? e).map (·.zero)=some (some z))
 (hx:cy L x=some (.chan (some c))) (hk:Nat.blt k H.length=true) (hH:H.getD k (λ_=>True)=dW c cap (v::vs) s r)
 (h:TX P w0 F n ops Q is D ((d, .tuple #[.int .i64 0, .bool true,v])::L) (H.set k (dW c cap vs s (r+1)))):TX P w0 F n ops Q (i::is) D L H:=λa w f sm m=>by
 have hc:=m.chan k hk hH;have hr:=rG (P:=P) hop hz a.eval w;rw[f.eval hx]at hr;simp only[Option.map_none]at hr;refine KS (v:= .tuple #[.int .i64 0, .bool true,v]) (w2:=w.setChan c cap vs.toArray false s (r+1) false) ho (hw a f) hr (λfr cs es hs=>?_) ?_
 · have:=step_lone_sel_recv_buf (k:=0) hs rfl (λj c' hj hjc=>by cases j with|zero=>exact absurd rfl hj|succ j=>simp at hjc) hc (by simp)
   rw[this];simp[commResult,goInt]
 · rw[hd]
   exact h _ _ (f.put (lb hn) _) (sm.setChan ..) (m.setChan k hk hH)
theorem TX.recvNone{x:Operand}{e c cap s r:Nat}{z:Value}(k:Nat)(ho:ops[i]?=some o)(hw:Want n D ops o L)(hop:o.op= .select #[⟨x,none,e⟩] false)(hd:o.dst=some d)(hn:Nat.blt d n=true)(hz:(P.info? e).map (·.zero)=some (some z))
 (hx:cy L x=some (.chan (some c))) (hk:Nat.blt k H.length=true) (hH:H.getD k (λ_=>True)=dW c cap [] s r)
 (h:TX P w0 F n ops Q is D ((d, .tuple #[.int .i64 (-1), .bool false,z])::L) H):TX P w0 F n ops Q (i::is) D L H:=λa w f sm m=>by
 have hc:=m.chan k hk hH;have hr:=rG (P:=P) hop hz a.eval w;rw[f.eval hx]at hr;simp only[Option.map_none]at hr;refine KS (v:= .tuple #[.int .i64 (-1), .bool false,z]) (w2:=w) ho (hw a f) hr (λfr cs es hs=>?_) ?_
 · have:=step_lone_sel_default hs (λcc hcc=>by
    obtain rfl:cc=rcase c z:=by simpa [rcase]using hcc
    exact noWay_recv hc)
   rw[this];simp[commResult,goInt]
 · rw[hd]
   exact h _ _ (f.put (lb hn) _) sm m
end
end Leg
namespace Leg
open Go Codec Api Go.Conc
section
variable {P:Program} {w0:World} {F:Hl} {n:Nat} {ops:Array Oper} {Q:QQ} {D:List Deferred} {L:List (Nat×Value)} {H:List HP} {d:Nat} {o:Oper}
theorem PV.lenChan{t e:TypeId}{dir:ChanDir}{x:Operand}{c cap s r:Nat}{vs:List Value}(k:Nat)(ho:o.op= .call {callee:= .builtin .len,args:=#[x],argTypes:=#[t]})(ht:P.underlying t=some (.chan dir e))(hx:cy L x=some (.chan (some c)))
 (hk:Nat.blt k H.length=true) (hH:H.getD k (λ_=>True)=dW c cap vs s r):PV P n D L (Sat H F) o (.int .i64 ((vs.length:Nat):Int)):=λa w f m=>by
 have hl:=Conc.run_len_chan (P:=P) (w:=w) (dir:=dir) (e:=e) t o.type ht (m.chan k hk hH);simp[execOp,ho,resolve,f.eval hx,invoke,builtin,hl,goInt]
theorem PV.capChan{t e:TypeId}{dir:ChanDir}{x:Operand}{c cap s r:Nat}{vs:List Value}(k:Nat)(ho:o.op= .call {callee:= .builtin .cap,args:=#[x],argTypes:=#[t]})(ht:P.underlying t=some (.chan dir e))(hx:cy L x=some (.chan (some c)))
 (hk:Nat.blt k H.length=true) (hH:H.getD k (λ_=>True)=dW c cap vs s r):PV P n D L (Sat H F) o (.int .i64 ((cap:Nat):Int)):=λa w f m=>by
 have hl:=Conc.run_cap_chan (P:=P) (w:=w) (dir:=dir) (e:=e) t o.type ht (m.chan k hk hH);simp[execOp,ho,resolve,f.eval hx,invoke,builtin,hl,goInt]
end
abbrev gB(T U b:Nat)(ls:List (List UInt8)):HP:=pack (λq:Nat×List Value×Nat×Nat=>[ag b [.chan (some q.1)] T,dW q.1 8 q.2.1 q.2.2.1 q.2.2.2,en q.2.1 ls U])
def qo(T U:Nat)(bs:List Nat)(W:List (List (List UInt8)))(k:Nat):HP:=if k%6=0 then(λ_=>True)else gB T U (bs.getD k 0) (W.getD k [])
def oP(T U:Nat)(bs:List Nat)(W:List (List (List UInt8))):List HP:=(List.range 25).map (qo T U bs W)
def eB(T U:Nat)(bs:List Nat)(W:List (List (List UInt8))):HP:=bC (oP T U bs W)
def fl(T U:Nat)(bs:List Nat)(W:List (List (List UInt8)))(k:Nat):HP:=bC ((oP T U bs W).eraseIdx k)
def dr(bs:List Nat):List Value:=(List.range 25).map λk=>if k%6=0 then .pointer none else .pointer (some ⟨bs.getD k 0,0,none⟩)
theorem A0(bs:List Nat){k:Nat}(h:k<25):(dr bs)[k]?=some (if k%6=0 then .pointer none else .pointer (some ⟨bs.getD k 0,0,none⟩)):=by unfold dr;simp[h]
theorem x8(bs:List Nat):(dr bs).length=25:=by simp[dr]
abbrev dL(NT T U n:Nat)(W:List (List (List UInt8))):HP:=pack (λbs:List Nat=>[ag n (dr bs) NT,eB T U bs W])
section
variable {T U:Nat} {bs:List Nat} {W:List (List (List UInt8))} {k:Nat} {H:List HP} {h:Hl}
theorem BP:(oP T U bs W).length=25:=by simp[oP]
theorem wE(hk:k<25)(s:bC (eB T U bs W::H) h):bC (qo T U bs W k::fl T U bs W k::H) h:=by
 have s1:bC (oP T U bs W++H) h:=(bX _ _).2 s;have e:(oP T U bs W).getD k (λ_=>True)=qo T U bs W k:=by simp[oP,List.getD_eq_getElem?_getD,hk]
 have p:=mG (λ_=>True) (oP T U bs W) k (by rw[BP];exact hk);rw[e]at p;have s2:=ee (p.append_right H) s1;exact cA s2 (λ_ a=>a) λ_ b=>(bX _ _).1 b
theorem tU{W':List (List (List UInt8))}(hk:k<25)(hW: ∀j,j≠k→W'.getD j []=W.getD j [])(s:bC (qo T U bs W' k::fl T U bs W k::H) h):bC (eB T U bs W'::H) h:=by
 have e0:(oP T U bs W').eraseIdx k=(oP T U bs W).eraseIdx k:=by
  refine List.ext_getElem? λj=>?_
  rw[List.getElem?_eraseIdx,List.getElem?_eraseIdx]
  have: ∀i,i≠k→(oP T U bs W')[i]?=(oP T U bs W)[i]?:=λi hi=>by
   simp only[oP,List.getElem?_map];cases q:(List.range 25)[i]?with
   |none=>rfl
   |some m=>
    have hm:m=i:=by
     by_cases hi25:i<25
     · simp[hi25]at q;exact q.symm
     · simp[hi25]at q
    subst hm;simp only[Option.map_some,qo,hW m hi]
  split
  · exact this j (by omega)
  · exact this (j+1) (by omega)
 have e:(oP T U bs W').getD k (λ_=>True)=qo T U bs W' k:=by simp[oP,List.getD_eq_getElem?_getD,hk]
 have p:=mG (λ_=>True) (oP T U bs W') k (by rw[BP];exact hk);rw[e,e0]at p;have s2:bC ((qo T U bs W' k::(oP T U bs W).eraseIdx k)++H) h:=cA s (λ_ a=>a) λ_ b=>(bX _ _).2 b
 exact(bX _ _).1 (ee (p.symm.append_right H) s2)
end
def bA(from' to':Int):Nat:=from'.toNat*5+to'.toNat
def iA(w:Int):Bool:=decide (0≤w∧w<5)
theorem Il{f t:Int}(hf:iA f=true)(ht:iA t=true):bA f t<25:=by
 have h1:0≤f∧f<5:=of_decide_eq_true hf;have h2:0≤t∧t<5:=of_decide_eq_true ht;unfold bA;omega
theorem sH{f t:Int}(hf:iA f=true)(ht:iA t=true):bA f t%6=0↔f=t:=by
 have h1:0≤f∧f<5:=of_decide_eq_true hf;have h2:0≤t∧t<5:=of_decide_eq_true ht;unfold bA;omega
end Leg
end

section
namespace Wal
open Go Leg Codec Api Dsk
end Wal
namespace Leg
open Go Codec Api
end Leg
namespace Leg
open Go Codec Api
theorem p6{us:List Value}{ls:List (List UInt8)}{e:Nat}{H:List HP}{F:Hl}{w:World}(i:Nat)(hi:Nat.blt i H.length=true)(hH:H.getD i (λ_=>True)=en us ls e)(m:Sat H F w):us.length=ls.length∧∀u∈us,u.oneCell'=true:=by
 obtain⟨h,d,e',x⟩:=m;obtain⟨h1,h2,d',rfl,a,_⟩:=eO i (lb hi) x;rw[hH]at a;refine⟨a.1,λu hu=>?_⟩;obtain⟨j,hj,rfl⟩:=fa hu;obtain⟨u,e1,k1,k2,dk,rfl,a3⟩:=wD us ls e _ a.1 a.2 j (by rw[←a.1];exact hj);rw[List.getElem?_eq_getElem hj]at e1;injection e1 with e1
 rw[e1];exact(Au a3 (λb o q=>q):IsB u _ k1).one
section
variable {P:Program} {n:Nat} {D:List Deferred} {L:List (Nat×Value)} {S:World→Prop} {o:Oper}
end
end Leg
namespace Wal
open Go Leg Codec Api Dsk
end Wal
namespace Leg
open Go Codec Api
section
variable {P:Program} {n:Nat} {D:List Deferred} {L:List (Nat×Value)} {S:World→Prop} {o:Oper}
end
theorem Ge{us:List Value}{ls:List (List UInt8)}{e:Nat}{u:Value}{l:List UInt8}{H:List HP}{h:Hl}(s:bC (en (u::us) (l::ls) e::H) h):bC (gm u l e::en us ls e::H) h:=by
 obtain⟨h1,h2,d,rfl,⟨hl,a⟩,b⟩:=s;obtain⟨g1,g2,d',rfl,a1,a2⟩:=a;exact mB.1 ⟨_,h2,d,rfl,⟨g1,g2,d',rfl,a1,⟨by simpa using hl,a2⟩⟩,b⟩
def zd(ls:List (List UInt8))(bs:List UInt8):List (List UInt8):=if ls.length<8 then ls++[bs]else ls
def dA(f t:Int):Bool:=iA f&&iA t&& !decide (f=t)
def om(W:List (List (List UInt8)))(f t:Int)(bs:List UInt8):List (List (List UInt8)):=if dA f t then W.set (bA f t) (zd (W.getD (bA f t) []) bs)else W
theorem hY{f t:Int}(h:dA f t=true):bA f t<25∧¬bA f t%6=0:=by
 unfold dA at h;rw[av,av]at h;refine⟨Il h.1.1 h.1.2,λq=>?_⟩;have:=(sH h.1.1 h.1.2).1 q;rw[this]at h;simp at h
theorem p7{T U:Nat}{bs:List Nat}{W:List (List (List UInt8))}{k:Nat}(h: ¬k%6=0):qo T U bs W k=gB T U (bs.getD k 0) (W.getD k []):=by unfold qo;rw[if_neg h]
theorem nz{T U:Nat}{bs:List Nat}{W:List (List (List UInt8))}{f t:Int}(hv:dA f t=true){H:List HP}{h:Hl}(s:bC (eB T U bs W::H) h):bC (gB T U (bs.getD (bA f t) 0) (W.getD (bA f t) [])::fl T U bs W (bA f t)::H) h:=by
 obtain⟨h1,h2⟩:=hY hv;have:=wE h1 s
 rwa [p7 h2]at this
theorem sG{T U:Nat}{bs:List Nat}{W:List (List (List UInt8))}{f t:Int}{ls:List (List UInt8)}(hv:dA f t=true)(hW:W.length=25){H:List HP}{h:Hl}(s:bC (gB T U (bs.getD (bA f t) 0) ls::fl T U bs W (bA f t)::H) h):bC (eB T U bs (W.set (bA f t) ls)::H) h:=by
 obtain⟨h1,h2⟩:=hY hv;refine tU (W:=W) h1 (λj hj=>?_) ?_
 · rw[List.getD_eq_getElem?_getD,List.getD_eq_getElem?_getD,List.getElem?_set_ne (λe=>hj e.symm)]
 · rw[p7 h2,show(W.set (bA f t) ls).getD (bA f t) []=ls by rw[List.getD_eq_getElem?_getD,List.getElem?_set_self (by omega)];rfl]
   exact s
end Leg
namespace Leg
open Go Codec Api
def b8(w:Int):UInt8:=Wal.r8 w
theorem uF(w:Int):IntKind.u8.wrap w=(((b8 w).toNat:Nat):Int):=Wal.r8_wrap w
end Leg
end

section
namespace Go.Proofs.YtjblgopghhgflaaGreat
open Go Leg Codec Api Dsk Wal
theorem su(b c s r:Nat)(us:List Value)(ls:List (List UInt8)):
 DT 100 #[(.pointer (some ⟨b,0,none⟩))] T0 [ag b [(.chan (some c))] 208,dW c 8 (us) (s) (r),en (us) (ls) 5] (RI (.int .i64 ((ls.length:Nat):Int)) [ag b [(.chan (some c))] 208,dW c 8 (us) (s) (r),en (us) (ls) 5]):=by
 refine BD 8 Tryz.func100 rfl rfl rfl λw0 F hF=>sr λ_ J1=>PS ?_
 refine nx J1 (sr λ_ J2=>xw (p:=us.length=ls.length) (λw m=>(p6 2 rfl rfl m).1) (λhul=>P2 ?_));refine FA 0 BU tn ?_;refine LA 0 ul ?_;refine tp (PV.lenChan 1 rfl ul rfl rfl rfl) ?_;refine PS ?_;refine nx J2 (ai (WK [0,0,0] (au rfl rfl ?_)));exact⟨by rw[hul],rfl⟩
theorem ja(b:Nat)(ls:List (List UInt8)):DT 100 #[.pointer (some ⟨b,0,none⟩)] T0 [gB 208 5 b ls] (RI (.int .i64 ((ls.length:Nat):Int)) [gB 208 5 b ls]):=
 Leg.Does.pack (B:=[]) λq=>Leg.Does.fold (su b q.1 q.2.2.1 q.2.2.2 q.2.1 ls) λe H hp=>by
  cases e with
  |returned v=>
   obtain⟨rfl,rfl⟩:=hp;exact⟨_,λ_ s=>bi (p:=λq:Nat×List Value×Nat×Nat=>[ag b [.chan (some q.1)] 208,dW q.1 8 q.2.1 q.2.2.1 q.2.2.2,en q.2.1 ls 5]) (H:=[]) q s,rfl,rfl⟩
  |panicked c=>exact hp.elim
  |outgrown=>exact hp.elim
theorem zP(b c s r:Nat)(us:List Value)(ls:List (List UInt8))(x:Value)(bs:List UInt8)(hb:bs.length≤1000000):
 DT 138 #[(.pointer (some ⟨b,0,none⟩)),x] (IsW x bs) [ag b [(.chan (some c))] 208,dW c 8 (us) (s) (r),en (us) (ls) 5] (c9 (λv H=>(ls.length<8∧v= .bool true∧∃u,H=[ag b [(.chan (some c))] 208,dW c 8 (us++[u]) (s+1) r,en us ls 5,dK u bs 5])∨(¬ls.length<8∧v= .bool false∧H=[ag b [(.chan (some c))] 208,dW c 8 (us) (s) (r),en (us) (ls) 5]))):=by
 refine Leg.Does.body (vs:=[(.pointer (some ⟨b,0,none⟩)),x]) (n:=15) Tryz.func138 rfl rfl rfl (λw0 F hF=>?_);refine sr λ_ J1=>?_
 refine oW ?_;refine nx J1 ?_;refine ab λ_ J2=>?_
 refine sr λ_ J3=>?_
 refine xw (p:=us.length=ls.length) (λw m=>(p6 2 rfl rfl m).1) (λhul=>?_);refine mv ?_;refine tp (fT rfl rfl) ?_;refine tp (aV (r:=0) rfl BU rfl tn rfl rfl) ?_;refine tp (e7 (v:=(.chan (some c))) rfl ul rfl rfl (dG 0 rfl rfl) rfl) ?_;refine nx J3 ?_;refine ad ?_;refine BX (aa rfl) rfl rfl rfl gq kV (λv9=>?_);change TL _ _ _ _ _ _ _ _ _ [dK v9 ([]) 5,ag b [(.chan (some c))] 208,dW c 8 (us) (s) (r),en (us) (ls) 5];refine mv ?_;refine cE (k:=0) (news:=dY (bs)) (nn':=(bs:List UInt8).length) (xs':=dY (bs)) (aa rfl) rfl rfl rfl gq yl rfl rfl rfl rfl rfl rfl (λ_ _=>hF.src (λ_ h=>dT h)) (eN _) (by simp only[maxLen,aC];omega) (by simp only[aC];omega) (by simp) (cb _) (λv11 ov11=>?_);change TL _ _ _ _ _ _ _ _ _ [dK v11 (bs) 5,ag b [(.chan (some c))] 208,dW c 8 (us) (s) (r),en (us) (ls) 5];refine nx J2 ?_;refine ab λ_ J4=>?_
 refine xy ?_;change TX _ _ _ _ _ _ [0,1,2] _ _ _
 by_cases hroom:us.length<8
 refine TX.sendRoom 2 rfl (aa rfl) rfl rfl rfl KN rfl rfl rfl rfl hroom ?_;change TX _ _ _ _ _ _ _ _ _ [dK v11 (bs) 5,ag b [(.chan (some c))] 208,dW c 8 (us++[v11]) (s+1) (r),en (us) (ls) 5];refine sy rfl (aa rfl) rfl rfl (lE (vs:=[(.int .i64 0),(.bool false)]) rfl rfl rfl) ?_;refine sy rfl (aa rfl) rfl rfl (MN rfl rfl rfl) ?_;refine Jf ?_;refine ac J4 ?_;refine aq ?_;refine iG rfl ?_;refine sr λ_ J5=>?_
 refine oW ?_;refine nx J5 ?_;refine ai ?_;refine aH ?_;refine aF (dh _) (λ_ s=>ak [1,1,1,0] rfl s) ?_;refine au rfl rfl ?_;exact Or.inl ⟨by omega,rfl,_,rfl⟩;refine TX.sendFull 2 rfl (aa rfl) rfl rfl rfl KN rfl rfl rfl rfl (by omega) ?_;refine sy rfl (aa rfl) rfl rfl (lE (vs:=[(.int .i64 (-1)),(.bool false)]) rfl rfl rfl) ?_;refine sy rfl (aa rfl) rfl rfl (MN rfl rfl rfl) ?_;refine Jf ?_;refine ac J4 ?_;refine aq ?_;refine sz rfl ?_;refine sr λ_ J6=>?_
 refine oW ?_;refine nx J6 ?_;refine ai ?_;refine aH ?_;refine aF (dh _) (λ_ s=>ak [1,1,1] rfl s) ?_;refine au rfl rfl ?_;exact Or.inr ⟨by omega,rfl,rfl⟩
theorem tW(b:Nat)(ls:List (List UInt8))(x:Value)(bs:List UInt8)(hb:bs.length≤1000000):DT 138 #[.pointer (some ⟨b,0,none⟩),x] (IsW x bs) [gB 208 5 b ls] (RI (.bool (decide (ls.length<8))) [gB 208 5 b (zd ls bs)]):=
 Leg.Does.pack (B:=[]) λq=>Leg.Does.fold (zP b q.1 q.2.2.1 q.2.2.2 q.2.1 ls x bs hb) λe H hp=>by
  cases e with
  |returned v=>
   unfold zd;rcases hp with⟨h8,rfl,u,rfl⟩| ⟨h8,rfl,rfl⟩
   · refine⟨[gB 208 5 b (ls++[bs])],λ_ s=>?_,by rw[decide_eq_true h8],by rw[if_pos h8]⟩
     have s1:=yW 3 rfl rfl s;have s2:=az [2,2] rfl s1;have s3:=ti s2;exact bi (p:=λq:Nat×List Value×Nat×Nat=>[ag b [.chan (some q.1)] 208,dW q.1 8 q.2.1 q.2.2.1 q.2.2.2,en q.2.1 (ls++[bs]) 5]) (H:=[]) (q.1,q.2.1++[u],q.2.2.1+1,q.2.2.2) (az [1,1,0] rfl s3)
   · exact⟨[gB 208 5 b ls],λ_ s=>bi (p:=λq:Nat×List Value×Nat×Nat=>[ag b [.chan (some q.1)] 208,dW q.1 8 q.2.1 q.2.2.1 q.2.2.2,en q.2.1 ls 5]) (H:=[]) q s,by rw[decide_eq_false h8],by rw[if_neg h8]⟩
  |panicked c=>exact hp.elim
  |outgrown=>exact hp.elim
theorem xq(b c s r:Nat)(us:List Value)(ls:List (List UInt8)):
 DT 139 #[(.pointer (some ⟨b,0,none⟩))] T0 [ag b [(.chan (some c))] 208,dW c 8 (us) (s) (r),en (us) (ls) 5] (c9 (λv H=>(ls=[]∧v= .tuple #[.slice none 0 0, .bool false]∧H=[ag b [(.chan (some c))] 208,dW c 8 [] s r,en [] ls 5])∨(∃u us' f ls',ls=f::ls'∧v= .tuple #[u, .bool true]∧H=[ag b [(.chan (some c))] 208,dW c 8 us' s (r+1),en (u::us') (f::ls') 5]))):=by
 refine BD 14 Tryz.func139 rfl rfl rfl λw0 F hF=>sr λ_ J1=>P2 ?_
 refine nx J1 (sr λ_ J2=>xw (p:=us.length=ls.length) (λw m=>(p6 2 rfl rfl m).1) (λhul=>P2 ?_));refine FA 0 BU tn ?_;refine LA 0 ul ?_;refine nx J2 (ab λ_ J3=>xy ?_);rcases us with _| ⟨u,us⟩
 refine TX.recvNone 1 rfl (aa rfl) rfl rfl rfl KN rfl rfl rfl (sy rfl (aa rfl) rfl rfl (lE (vs:=[(.int .i64 (-1)),(.bool false),(.slice none 0 0)]) rfl rfl rfl) (sy rfl (aa rfl) rfl rfl (MN rfl rfl rfl) (Jf (ac J3 (aq (CN (sr λ_ J4=>P2 ?_)))))));exact nx J4 (ai (aH (WK [0,0,0] (iq rfl rfl rfl (Or.inl ⟨List.eq_nil_of_length_eq_zero hul.symm,rfl,rfl⟩)))));rcases ls with _| ⟨f,ls⟩
 · cases hul
 refine TX.recvBuf 1 rfl (aa rfl) rfl rfl rfl KN rfl rfl rfl (sy rfl (aa rfl) rfl rfl (lE (vs:=[(.int .i64 0),(.bool true),u]) rfl rfl rfl) (sy rfl (aa rfl) rfl rfl (MN rfl rfl rfl) (Jf (ac J3 (aq (CY (sr λ_ J5=>P2 ?_)))))));refine nx J5 (sr λ_ J6=>P3 ?_);exact nx J6 (ai (aH (WK [0,0,0] (iq rfl rfl rfl (Or.inr ⟨u,us,f,ls,rfl,rfl,rfl⟩)))))
theorem st(b:Nat)(ls:List (List UInt8)):DT 139 #[.pointer (some ⟨b,0,none⟩)] T0 [gB 208 5 b ls] (c9 (λv H=>(ls=[]∧v= .tuple #[.slice none 0 0, .bool false]∧H=[gB 208 5 b []])∨(∃u f ls',ls=f::ls'∧v= .tuple #[u, .bool true]∧H=[gB 208 5 b ls',gm u f 5]))):=
 Leg.Does.pack (B:=[]) λq=>Leg.Does.fold (xq b q.1 q.2.2.1 q.2.2.2 q.2.1 ls) λe H hp=>by
  cases e with
  |returned v=>
   rcases hp with⟨rfl,rfl,rfl⟩| ⟨u,us',f,ls',rfl,rfl,rfl⟩
   · exact⟨[gB 208 5 b []],λ_ s=>bi (p:=λq:Nat×List Value×Nat×Nat=>[ag b [.chan (some q.1)] 208,dW q.1 8 q.2.1 q.2.2.1 q.2.2.2,en q.2.1 [] 5]) (H:=[]) (q.1,[],q.2.2.1,q.2.2.2) s,Or.inl ⟨rfl,rfl,rfl⟩⟩
   · refine⟨[gB 208 5 b ls',gm u f 5],λ_ s=>?_,Or.inr ⟨u,f,ls',rfl,rfl,rfl⟩⟩
     have s1:=az [2] rfl s;have s2:=Ge s1;exact bi (p:=λq:Nat×List Value×Nat×Nat=>[ag b [.chan (some q.1)] 208,dW q.1 8 q.2.1 q.2.2.1 q.2.2.2,en q.2.1 ls' 5]) (H:=[gm u f 5]) (q.1,us',q.2.2.1,q.2.2.2+1) (az [2,2,1,0] rfl s2)
  |panicked c=>exact hp.elim
  |outgrown=>exact hp.elim
theorem zQ:
 DT 91 #[(.int .i64 8)] T0 [] (c9 (λv H=>∃b c,v= .pointer (some ⟨b,0,none⟩)∧H=[ag b [(.chan (some c))] 208,dW c 8 [] 0 0])):=by
 refine BD 9 Tryz.func91 rfl rfl rfl λw0 F hF=>sr λ_ J1=>PS ?_
 refine nx J1 (sr λ_ J2=>PS ?_);refine tp (N4 (v':=(.int .i64 8)) (xD rfl rfl rfl) rfl) ?_;refine tp (N4 (v':=(.int .i64 8)) (PV.minI rfl rfl rfl) rfl) ?_;refine TL.makeChan (k:=8) (bytes:=24) (aa rfl) rfl rfl rfl ul (by kernel_rfl) rfl (by omega) (by omega) (λc6=>BV #[(.chan (some c6))] ?_);refine XB λb8=>?_
 refine PS ?_;exact nx J2 (ai (WK [0,0] (au rfl rfl ⟨b8,c6,rfl,rfl⟩)))
theorem BO:DT 91 #[.int .i64 8] T0 [] (c9 (λv H=>∃b,v= .pointer (some ⟨b,0,none⟩)∧H=[gB 208 5 b []])):=
 Leg.Does.fold zQ λe H hp=>by
  cases e with
  |returned v=>
   obtain⟨b,c,rfl,rfl⟩:=hp;exact⟨[gB 208 5 b []],λ_ s=>bi (p:=λq:Nat×List Value×Nat×Nat=>[ag b [.chan (some q.1)] 208,dW q.1 8 q.2.1 q.2.2.1 q.2.2.2,en q.2.1 [] 5]) (H:=[]) (c,[],0,0) (az [1,1,0] rfl (yy s)),b,rfl,rfl⟩
  |panicked c=>exact hp.elim
  |outgrown=>exact hp.elim
theorem oK(w:Int):
 DT 137 #[(.int .i64 (w))] T0 [] (RI (.bool (iA w)) []):=by
 refine BD 9 Tryz.func137 rfl rfl rfl λw0 F hF=>sr λ_ J1=>PS ?_
 refine nx J1 (sr λ_ J2=>P2 ?_);refine an ?_ ?_<;>intro h4
 iterate 5 refine PS ?_
 refine nx J2 (ai (WK [] (au rfl rfl ?_)));exact⟨congrArg Value.bool (by unfold iA;simp only[decide_eq_decide];omega),rfl⟩;refine PS ?_;refine UF ?_;refine UF ?_;refine P2 ?_;refine nx J2 (ai (WK [] (au rfl rfl ?_)));exact⟨congrArg Value.bool (by unfold iA;symm;exact decide_eq_false (by omega)),rfl⟩
theorem mq(n:Nat)(bs:List Nat)(from' to':Int):
 DT 99 #[(.pointer (some ⟨n,0,none⟩)),(.int .i64 (from')),(.int .i64 (to'))] T0 [ag n (dr bs) 156] (c9 (λv H=>((dA from' to'=true∧v= .pointer (some ⟨(bs.getD (bA from' to') 0),0,none⟩))∨(dA from' to'=false∧v= .pointer none))∧H=[ag n (dr bs) 156])):=by
 refine BD 23 Tryz.func99 rfl rfl rfl λw0 F hF=>sr λ_ J1=>PS ?_
 refine nx J1 (ab λ_ J2=>sr λ_ J3=>PS ?_);refine CE JF (oK from') ID ?_;refine aW ?_ ?_<;>intro h8;have hf:0≤from'∧from'<5:=of_decide_eq_true h8
 refine PS ?_;refine P2 ?_;refine CE JF (oK to') ID ?_;refine aW ?_ ?_<;>intro h12;have ht:0≤to'∧to'<5:=of_decide_eq_true h12;refine PS ?_;refine PS ?_;refine nx J3 (CN (qx J2 (sr λ_ J4=>P4 ?_)));refine FA 0 Tryz.underlying156 DR ?_;refine IX (((from').toNat)*5) Jc Ar ?_;refine IX (((from').toNat)*5+(to').toNat) HZ DU ?_;refine LT 0 wO (if bA from' to'%6=0 then .pointer none else .pointer (some ⟨(bs.getD (bA from' to') 0),0,none⟩)) ?_ (hc:=by exact A0 bs (k:=bA from' to') (by unfold bA;omega));refine PS ?_;refine nx J4 (ai (WK [0] (au rfl rfl ⟨?_,rfl⟩)))
 by_cases hd:from'=to'
 · rw[if_pos ((sH h8 h12).2 hd)]
   exact Or.inr ⟨by unfold dA;rw[decide_eq_true hd];simp,rfl⟩
 · rw[if_neg (λq=>hd ((sH h8 h12).1 q))]
   exact Or.inl ⟨by unfold dA;rw[h8,h12,decide_eq_false hd];rfl,rfl⟩
 refine PS ?_;refine PS ?_;refine nx J3 (CY (sr λ_ J5=>PS ?_));refine nx J5 (ai (ae (WK [0] (au rfl rfl ?_))));exact⟨Or.inr ⟨by unfold dA;rw[h12];simp,rfl⟩,rfl⟩;refine PS ?_;refine PS ?_
 iterate 3 refine UT ?_
 refine PS ?_;refine nx J3 (CY (sr λ_ J6=>PS ?_));refine nx J6 (ai (ae (WK [0] (au rfl rfl ?_))));exact⟨Or.inr ⟨by unfold dA;rw[h8];simp,rfl⟩,rfl⟩
def rS(W:List (List (List UInt8)))(f t:Int):Bool:=dA f t&&decide ((W.getD (bA f t) []).length<8)
theorem xe(n:Nat)(bs:List Nat)(W:List (List (List UInt8)))(from' to':Int)(x:Value)(by':List UInt8)(hb:by'.length≤1000000)(hW:W.length=25):
 DT 202 #[(.pointer (some ⟨n,0,none⟩)),(.int .i64 (from')),(.int .i64 (to')),x] (IsW x by') [ag n (dr bs) 156,eB 208 5 bs W] (RI (.bool (rS W from' to')) [ag n (dr bs) 156,eB 208 5 bs (om W from' to' by')]):=by
 refine BD 21 Tryz.func202 rfl rfl rfl λw0 F hF=>sr λ_ J1=>PS ?_
 refine nx J1 (sr λ_ J2=>P3 ?_);refine CR CO (mq n bs from' to') ID λvR HR hR=>?_
 obtain⟨hw,rfl⟩:=hR;rcases hw with⟨hv,rfl⟩| ⟨hv,rfl⟩
 refine PS ?_;refine nx J2 (sr λ_ J3=>PS ?_);refine tp (fP rfl wO rfl rfl) ?_;refine P3 ?_;refine cq (H':=[gB 208 5 (bs.getD (bA from' to') 0) (W.getD (bA from' to') []),fl 208 5 bs W (bA from' to'),ag n (dr bs) 156]) (λ_ s=>nz hv (az [1] rfl s)) (CF G9 (tW (bs.getD (bA from' to') 0) (W.getD (bA from' to') []) x by' hb) ID (λ_ d _=>MT hF d) ?_);refine P2 ?_;refine nx J3 (ai (aF (H':=[ag n (dr bs) 156,eB 208 5 bs (om W from' to' by')]) (dh _) (λ_ s=>by unfold om;rw[if_pos hv];exact az [1,0] rfl (sG hv hW (az [0,0,0] rfl s))) (au rfl rfl ?_)));exact⟨by unfold rS;rw[hv];rfl,rfl⟩;refine PS ?_;refine nx J2 (sr λ_ J4=>PS ?_);refine tp (gF rfl wO rfl rfl) ?_;refine PS ?_
 iterate 3 refine UF ?_
 refine P2 ?_;refine nx J4 (ai (WK [0,0] (au rfl rfl ?_)));exact⟨by unfold rS;rw[hv];rfl,by unfold om;rw[hv];rfl⟩
theorem zl(n:Nat)(W:List (List (List UInt8)))(from' to':Int)(x:Value)(by':List UInt8)(hb:by'.length≤1000000)(hW:W.length=25):DT 202 #[.pointer (some ⟨n,0,none⟩), .int .i64 from', .int .i64 to',x] (IsW x by') [dL 156 208 5 n W] (RI (.bool (rS W from' to')) [dL 156 208 5 n (om W from' to' by')]):=
 Leg.Does.pack (B:=[]) λbs=>Leg.Does.fold (xe n bs W from' to' x by' hb hW) λe H hp=>by
  cases e with
  |returned v=>
   obtain⟨rfl,rfl⟩:=hp;exact⟨_,λ_ s=>bi (p:=λbs:List Nat=>[ag n (dr bs) 156,eB 208 5 bs (om W from' to' by')]) (H:=[]) bs s,rfl,rfl⟩
  |panicked c=>exact hp.elim
  |outgrown=>exact hp.elim
def iY(f t:Int)(bs:List UInt8):List UInt8:=pA ([b8 f,b8 t]++bs)
theorem Dd(from' to':Int)(x:Value)(by':List UInt8)(hb:by'.length≤100000):
 DT 52 #[(.int .i64 (from')),(.int .i64 (to')),x] (IsW x by') [] (c9 (λv H=>∃u,v=u∧H=[dK u (iY from' to' by') 5])):=by
 refine BD 23 Tryz.func52 rfl rfl rfl λw0 F hF=>sr λ_ J1=>PS ?_
 refine nx J1 (sr λ_ J2=>PS ?_);refine tp (dX rfl gq rfl hF.len) ?_;refine AD ?_;refine TL.makeB (0) (2+by'.length) (aa rfl) rfl rfl rfl gq yl rfl rfl rfl (by omega) (by omega) (by omega) (λb11=>cq (H':=[dK (.slice (some ⟨b11,0,none⟩) 0 (2+by'.length)) ([]) 5]) (λ_ s=>DY 0 rfl rfl (by omega) (by simp only[maxLen];omega) (by simp[dY]) rfl s) (PS ?_));refine nx J2 (sr λ_ J3=>P2 ?_);refine tp (ej (r:=(((b8 from').toNat:Nat):Int)) rfl Y3 Y5 rfl (uF _)) ?_;refine PS ?_;refine tp (ej (r:=(((b8 to').toNat:Nat):Int)) rfl Y3 Y5 rfl (uF _)) ?_;refine aU (cells:=#[(.int .u8 ((((b8 from').toNat:Nat):Int))),(.int .u8 ((((b8 to').toNat:Nat):Int)))]) (aa rfl) rfl rfl rfl gq yl rfl rfl rfl (by as_aux_lemma=>kernel_rfl) (λb17=>cE (k:=1) (news:=dY ([(b8 from'),(b8 to')])) (nn':=([(b8 from'),(b8 to')]:List UInt8).length) (xs':=dY ([(b8 from'),(b8 to')])) (aa rfl) rfl rfl rfl gq yl rfl rfl rfl rfl rfl rfl (λ_ _=>jl rfl (RO 0) rfl) (eN [(b8 from'),(b8 to')]) (by simp only[maxLen,aC,ax];omega) (by simp only[aC,ax];omega) (by simp<;>omega) (cb _) (λv18 ov18=>PS ?_));refine nx J3 (sr λ_ J4=>P2 ?_)
 refine cE (k:=1) (news:=dY (by')) (nn':=([(b8 from'),(b8 to')]++by':List UInt8).length) (xs':=dY ([(b8 from'),(b8 to')]++by')) (aa rfl) rfl rfl rfl gq yl rfl rfl rfl rfl rfl rfl (λ_ _=>hF.src (λ_ h=>dT h)) (eN _) (by simp only[maxLen,aj,ax,aC];omega) (by simp only[aj,ax,aC];omega) (by simp<;>omega) (iL _ _).symm (λv21 ov21=>CQ Ls (tr v21 ([(b8 from'),(b8 to')]++by') (by simp only[aj,ax,aC];omega)) ID (λg d s=>H9 (uB 1 rfl rfl g d s)) λvR HR hR=>?_);have hR:=hR;subst hR;refine PS ?_;exact nx J4 (ai (WK [0] (au rfl rfl ⟨_,rfl,rfl⟩)))
theorem qR(f t:Int)(bs:List UInt8):(iY f t bs).length=bs.length+6:=by
 unfold iY;rw[kq];simp only[aj,ax,aC];omega
theorem xi(n:Nat)(W:List (List (List UInt8)))(from' to':Int)(x:Value)(by':List UInt8)(hb:by'.length≤3000)(hW:W.length=25):
 DT 204 #[(.pointer (some ⟨n,0,none⟩)),(.int .i64 (from')),(.int .i64 (to')),x] (IsW x by') [dL 156 208 5 n (W)] (RI (.bool (rS W from' to')) [dL 156 208 5 n (om W from' to' (iY from' to' by'))]):=by
 refine BD 24 Tryz.func204 rfl rfl rfl λw0 F hF=>?_
 have hfl:(iY from' to' by').length≤1000000:=by rw[qR];omega
 refine sr λ_ J1=>PS ?_
 refine nx J1 (ab λ_ J2=>sr λ_ J3=>PS ?_);refine tp (hJ rfl Gn rfl rfl) ?_;refine P2 ?_;refine tq (dX rfl gq rfl hF.len) ?_;refine PS ?_;refine an ?_ ?_<;>intro h14
 · exact absurd h14 (by omega)
 refine PS ?_;refine nx J3 (CN (qx J2 (sr λ_ J4=>?_)))
 iterate 6 refine PS ?_
 refine CQ NB (Dd from' to' x by' (by omega)) ID (λ_ d _=>MT hF d) λvR HR hR=>?_
 obtain⟨_,rfl,rfl⟩:=hR;revert vR;intro uf;refine CF LP (zl n W from' to' uf (iY from' to' by') hfl hW) (SM [1]) (λg d s=>H9 (uB 0 rfl rfl g d s)) ?_;refine PS ?_;exact nx J4 (ai (WK [0] (au rfl rfl ⟨rfl,rfl⟩)))
theorem xj(from' to':Int)(x:Value)(by':List UInt8)(h0:0<by'.length)(hb:by'.length≤100000):
 DT 140 #[(.int .i64 (from')),(.int .i64 (to')),x] (IsW x (iY from' to' by')) [] (c9 (λv H=>∃u,v= .tuple #[u, .bool true]∧H=[gm u by' 5])):=by
 refine BD 40 Tryz.func140 rfl rfl rfl λw0 F hF=>?_
 have hfl:(iY from' to' by').length≤1000000000:=by rw[qR];omega
 refine sr λ_ J1=>P2 ?_
 refine nx J1 (sr λ_ J2=>PS ?_);refine CQ Jx (xQ x (iY from' to' by') hfl) ID (λ_ d _=>MT hF d) λvR HR hR=>?_
 rcases hR with⟨ht',_,_⟩| ⟨t,u,ht',rfl,rfl⟩
 · exact absurd ht' (by unfold iY;rw[qw];simp)
 obtain rfl:t=([b8 from',b8 to']++by'):=by unfold iY at ht';rw[qw]at ht';exact(dO ht').symm
 refine jJ 0 rfl rfl (by simp) (λg cap hv hcap=>?_);have hv2:u= .slice (some ⟨g,0,none⟩) (by'.length+2) cap:=hv;refine P4 ?_;refine PS ?_;refine nx J2 (ab λ_ J3=>sr λ_ J4=>PS ?_);refine PS ?_;refine P2 ?_;refine tq (dX rfl gq rfl (by rw[hv2];exact⟨_,_,rfl⟩)) ?_;refine PS ?_;refine an ?_ ?_<;>intro h20
 · exact absurd h20 (by omega)
 refine P3 ?_;refine tq (bS (r:=0) hv2 rfl gq kV rfl rfl (by omega) (by omega) rfl) ?_;refine tq (cX (v:=(.int .u8 ((((b8 from').toNat:Nat):Int)))) rfl Y5 rfl rfl (fU 0 rfl hv rfl) (qt (l:=([b8 from',b8 to']++by')) (j:=0) (by simp))) ?_;refine PS ?_;refine tq (ej (r:=(((b8 from').toNat:Nat):Int)) rfl Y3 Y5 rfl (uF _)) ?_;refine PS ?_;refine an ?_ ?_<;>intro h28
 · exact absurd rfl h28
 refine P3 ?_;refine tq (bS (r:=1) hv2 rfl gq kV rfl rfl (by omega) (by omega) rfl) ?_;refine tq (cX (v:=(.int .u8 ((((b8 to').toNat:Nat):Int)))) rfl Y5 rfl rfl (fU 0 rfl hv rfl) (qt (l:=([b8 from',b8 to']++by')) (j:=1) (by simp))) ?_;refine PS ?_;refine tq (ej (r:=(((b8 to').toNat:Nat):Int)) rfl Y3 Y5 rfl (uF _)) ?_;refine PS ?_;refine an ?_ ?_<;>intro h36
 · exact absurd rfl h36
 refine PS ?_;refine nx J4 (CN (qx J3 (sr λ_ J5=>PS ?_)));refine tp (N4 (PV.sliceL (a:=some ⟨g,0,none⟩) (len:=by'.length+2) (cap:=cap) (lo:=2) rfl gq kV (by rw[←hv2];rfl) rfl rfl (by omega)) (congrArg (λq=>jH q 2 (by'.length+2)) hv2.symm)) ?_;refine P2 ?_;exact nx J5 (ai (aF (H':=[gm (jH u 2 (by'.length+2)) by' 5]) (dh _) (λ_ s=>vf 0 rfl rfl hv (by omega) (by simp) (by simp;omega) (by simp) s) (iq rfl rfl rfl ⟨_,rfl,rfl⟩)))
theorem vX(n:Nat)(bs:List Nat)(W:List (List (List UInt8)))(from' to':Int)(by':List UInt8)(ls:List (List UInt8))(hv:dA from' to'=true)(hW:W.length=25)(hk:W.getD (bA from' to') []=iY from' to' by'::ls)(h0:0<by'.length)(hb:by'.length≤100000):
 DT 103 #[(.pointer (some ⟨n,0,none⟩)),(.int .i64 (from')),(.int .i64 (to'))] T0 [ag n (dr bs) 156,eB 208 5 bs (W)] (c9 (λv H=>∃u,v= .tuple #[u, .bool true]∧H=[ag n (dr bs) 156,eB 208 5 bs (W.set (bA from' to') ls),gm u by' 5])):=by
 refine BD 32 Tryz.func103 rfl rfl rfl λw0 F hF=>sr λ_ J1=>P2 ?_
 refine nx J1 (ab λ_ J2=>sr λ_ J3=>PS ?_);refine tp (hJ rfl Gn rfl rfl) ?_;refine nx J3 (CN (qx J2 (sr λ_ J4=>P3 ?_)));refine CR CO (mq n bs from' to') ID λvR HR hR=>?_
 obtain⟨hw,rfl⟩:=hR;obtain⟨_,rfl⟩:dA from' to'=true∧vR= .pointer (some ⟨(bs.getD (bA from' to') 0),0,none⟩):=hw.resolve_right (λq=>by rw[hv]at q;cases q.1)
 refine PS ?_;refine nx J4 (ab λ_ J5=>sr λ_ J6=>PS ?_);refine tp (hJ rfl wO rfl rfl) ?_;refine nx J6 (CN (qx J5 (sr λ_ J7=>PS ?_)));refine cq (H':=[gB 208 5 (bs.getD (bA from' to') 0) (W.getD (bA from' to') []),fl 208 5 bs W (bA from' to'),ag n (dr bs) 156]) (λ_ s=>nz hv (az [1] rfl s)) (CR JE (st (bs.getD (bA from' to') 0) (W.getD (bA from' to') [])) ID λvR HR hR=>?_);rcases hR with⟨he,_,_⟩| ⟨u,f,ls',he,rfl,rfl⟩
 · rw[he]at hk;cases hk
 rw[hk]at he;obtain⟨rfl,rfl⟩:=List.cons.inj he;refine P4 ?_;refine PS ?_;refine nx J7 (ab λ_ J8=>sr λ_ J9=>PS ?_);refine PS ?_;refine nx J9 (CN (qx J8 (sr λ_ J10=>P3 ?_)));refine CQ Ml (xj from' to' u by' h0 hb) ID (λg d s=>H9 (zv 1 rfl rfl g d s)) λvR HR hR=>?_
 obtain⟨uv,rfl,rfl⟩:=hR;refine P4 ?_;exact nx J10 (ai (aF (H':=[ag n (dr bs) 156,eB 208 5 bs (W.set (bA from' to') ls),gm uv by' 5]) (dh _) (λ_ s=>az [1,0] rfl (sG hv hW (ak [1,2,2,0] rfl s))) (iq rfl rfl rfl ⟨_,rfl,rfl⟩)))
theorem qi(n:Nat)(W:List (List (List UInt8)))(from' to':Int)(by':List UInt8)(ls:List (List UInt8))(hv:dA from' to'=true)(hW:W.length=25)(hk:W.getD (bA from' to') []=iY from' to' by'::ls)(h0:0<by'.length)(hb:by'.length≤100000):DT 103 #[.pointer (some ⟨n,0,none⟩), .int .i64 from', .int .i64 to'] T0 [dL 156 208 5 n W] (c9 (λv H=>∃u,v= .tuple #[u, .bool true]∧H=[dL 156 208 5 n (W.set (bA from' to') ls),gm u by' 5])):=
 Leg.Does.pack (B:=[]) λbs=>Leg.Does.fold (vX n bs W from' to' by' ls hv hW hk h0 hb) λe H hp=>by
  cases e with
  |returned v=>
   obtain⟨u,rfl,rfl⟩:=hp;exact⟨[dL 156 208 5 n (W.set (bA from' to') ls),gm u by' 5],λ_ s=>bi (p:=λbs:List Nat=>[ag n (dr bs) 156,eB 208 5 bs (W.set (bA from' to') ls)]) (H:=[gm u by' 5]) bs s,u,rfl,rfl⟩
  |panicked c=>exact hp.elim
  |outgrown=>exact hp.elim
end Go.Proofs.YtjblgopghhgflaaGreat
end

section
namespace Leg
open Go Codec Api
section
variable {P:Program} {n:Nat} {D:List Deferred} {L:List (Nat×Value)} {S:World→Prop} {o:Oper}
theorem PV.ptrNeIf{c:Prop}[Decidable c]{t t':TypeId}{x y:Operand}{a:Addr}(ho:o.op= .binOp .neq t x y t')(ht:P.underlying t=some (.pointer (P.pointee t)))(hx:cy L x=some (if c then .pointer none else .pointer (some a)))(hy:cy L y=some (.pointer none)):PV P n D L S o (.bool (!decide c)):=by
 by_cases h:c
 · rw[if_pos h]at hx;rw[decide_eq_true h];exact gF ho ht hx hy
 · rw[if_neg h]at hx;rw[decide_eq_false h];exact fP ho ht hx hy
end
abbrev GW(bs:List Nat)(k:Nat):Value:=if k%6=0 then .pointer none else .pointer (some ⟨bs.getD k 0,0,none⟩)
def rI(bs:List Nat)(i:Nat):List Value:=(List.range 5).map λj=>GW bs (i*5+j)
theorem nJ(bs:List Nat)(i:Nat):(rI bs i).length=5:=by simp[rI]
theorem GO(bs:List Nat)(i:Nat): ∀v∈rI bs i,v.oneCell'=true:=by
 intro v hv;simp only[rI,eX]at hv;obtain⟨j,_,rfl⟩:=hv;show(if _ then _ else _:Value).oneCell'=true;split<;>rfl
theorem D4(bs:List Nat)(i:Nat){j:Nat}(h:j<5):(rI bs i)[j]?=some (GW bs (i*5+j)):=by simp[rI,h]
theorem GP(bs:List Nat){i:Nat}(h:i<5):((dr bs).drop (i*5)).take 5=rI bs i:=by
 refine List.ext_getElem? λj=>?_
 by_cases hj:j<5
 · rw[List.getElem?_take_of_lt hj,List.getElem?_drop,A0 bs (by omega),D4 bs i hj]
 · rw[List.getElem?_eq_none (by rw[bG];omega),List.getElem?_eq_none (by rw[nJ];omega)]
def kJ(W:List (List (List UInt8)))(k:Nat):Nat:=((List.range k).map λq=>if q%6=0 then 0 else(W.getD q []).length).sum
theorem qK(W:List (List (List UInt8)))(k:Nat):kJ W (k+1)=kJ W k+(if k%6=0 then 0 else(W.getD k []).length):=by simp[kJ,cO]
def lm(bs:List Nat):List Value:=(List.range 25).map λq=>if q%6=0∨bs.length≤q then .pointer none else .pointer (some ⟨bs.getD q 0,0,none⟩)
theorem x9(bs:List Nat):(lm bs).length=25:=by simp[lm]
theorem Ft{bs:List Nat}{b:Nat}(h:bs.length<25)(hd: ¬bs.length%6=0):(lm bs).set bs.length (.pointer (some ⟨b,0,none⟩))=lm (bs++[b]):=by
 refine List.ext_getElem? λj=>?_
 by_cases hj:j=bs.length
 · subst hj
   rw[List.getElem?_set_self (by rw[x9];exact h)];simp[lm,h,hd,List.getD_eq_getElem?_getD]
 · rw[List.getElem?_set_ne (λe=>hj e.symm)]
   simp only[lm,List.getElem?_map];cases hr:(List.range 25)[j]?with
   |none=>rfl
   |some q=>
    have hq:q=j:=by
     by_cases h25:j<25
     · simp[h25]at hr;exact hr.symm
     · simp[h25]at hr
    subst hq;simp only[Option.map_some,aj,ax,aC];congr 1
    by_cases hlt:q<bs.length
    · simp[show ¬bs.length≤q by omega,show ¬bs.length+1≤q by omega,List.getElem?_append_left hlt]
    · simp[show bs.length≤q by omega,show bs.length+1≤q by omega]
theorem CG{bs:List Nat}{b:Nat}(hd:bs.length%6=0):lm (bs++[b])=lm bs:=by
 unfold lm;refine dM λq hq=>?_
 rw[aj,gd]
 by_cases hq6:q%6=0
 · simp[hq6]
 · by_cases hlt:q<bs.length
   · simp[hq6,show ¬bs.length≤q by omega,show ¬bs.length+1≤q by omega,List.getElem?_append_left hlt]
   · have: ¬q=bs.length:=λe=>hq6 (by rw[e];exact hd)
     simp[show bs.length≤q by omega,show bs.length+1≤q by omega]
theorem Fu{bs:List Nat}(h:bs.length=25):lm bs=dr bs:=by
 unfold lm dr;refine dM λq hq=>?_
 rw[eS]at hq;simp[show ¬bs.length≤q by omega]
def oB(T U:Nat)(bs:List Nat)(q:Nat):HP:=if q%6=0 then(λ_=>True)else gB T U (bs.getD q 0) []
def jY(T U:Nat)(bs:List Nat):HP:=bC ((List.range bs.length).map (oB T U bs))
theorem DE(T U:Nat){H:List HP}{h:Hl}(s:bC H h):bC (jY T U []::H) h:=⟨em,h,B3 h,(ql h).symm,trivial,s⟩
theorem DF(T U:Nat)(bs:List Nat)(b:Nat):(List.range bs.length).map (oB T U (bs++[b]))=(List.range bs.length).map (oB T U bs):=
 dM λq hq=>by
  rw[eS]at hq;unfold oB;rw[show(bs++[b]).getD q 0=bs.getD q 0 by simp[List.getElem?_append_left hq]]
theorem tV(T U:Nat)(bs:List Nat)(b:Nat){H:List HP}{h:Hl}(s:bC (oB T U (bs++[b]) bs.length::jY T U bs::H) h):bC (jY T U (bs++[b])::H) h:=by
 have e:(List.range (bs++[b]).length).map (oB T U (bs++[b]))=(List.range bs.length).map (oB T U bs)++[oB T U (bs++[b]) bs.length]:=by
  rw[aj,gd,cO,cQ,DF];rfl
 obtain⟨h1,h2,d,rfl,a,b'⟩:=s;have s2:bC ((oB T U (bs++[b]) bs.length::(List.range bs.length).map (oB T U bs))++H) (jn h1 h2):=⟨h1,h2,d,rfl,a,(bX _ _).2 b'⟩;have p:((oB T U (bs++[b]) bs.length::(List.range bs.length).map (oB T U bs))++H).Perm (((List.range bs.length).map (oB T U bs)++[oB T U (bs++[b]) bs.length])++H):=(List.perm_append_comm (l₁:=[oB T U (bs++[b]) bs.length])).append_right H;have s3:=ee p s2;rw[←e]at s3;exact(bX _ _).1 s3
theorem BN(T U:Nat)(bs:List Nat)(hd:bs.length%6=0){H:List HP}{h:Hl}(s:bC (jY T U bs::H) h):bC (jY T U (bs++[0])::H) h:=by
 refine tV T U bs 0 ⟨em,h,B3 h,(ql h).symm,?_,s⟩;unfold oB;rw[if_pos hd];trivial
theorem DG{T U:Nat}{bs:List Nat}(h:bs.length=25):jY T U bs=eB T U bs (List.replicate 25 []):=by
 unfold jY eB oP;rw[h];refine congrArg bC ?_;refine dM λq hq=>?_
 rw[eS]at hq;unfold oB qo;rw[show(List.replicate 25 ([]:List (List UInt8))).getD q []=[]by rw[List.getD_eq_getElem?_getD,List.getElem?_replicate,if_pos hq];rfl]
theorem HS{T U:Nat}{bs:List Nat}{W:List (List (List UInt8))}{k:Nat}(h6: ¬k%6=0)(hk:k<25){H:List HP}{h:Hl}(s:bC (eB T U bs W::H) h):bC (gB T U (bs.getD k 0) (W.getD k [])::fl T U bs W k::H) h:=by
 have:=wE hk s
 rwa [p7 h6]at this
theorem HQ{T U:Nat}{bs:List Nat}{W:List (List (List UInt8))}{k:Nat}(h6: ¬k%6=0)(hk:k<25){H:List HP}{h:Hl}(s:bC (gB T U (bs.getD k 0) (W.getD k [])::fl T U bs W k::H) h):bC (eB T U bs W::H) h:=by
 refine tU (W:=W) hk (λ_ _=>rfl) ?_;rw[p7 h6];exact s
end Leg
end

section
namespace Go.Proofs.YtjblgopghhgflaaGreat
open Go Leg Codec Api Dsk Wal
theorem zm(n:Nat)(bs:List Nat)(W:List (List (List UInt8)))(hsm: ∀k,k<25→kJ W k+(W.getD k []).length≤1000000000):
 DT 66 #[(.pointer (some ⟨n,0,none⟩))] T0 [ag n (dr bs) 156,eB 208 5 bs (W)] (RI (.int .i64 ((kJ W 25:Nat):Int)) [ag n (dr bs) 156,eB 208 5 bs W]):=by
 refine BD 28 Tryz.func66 rfl rfl rfl λw0 F hF=>sr λ_ J1=>PS ?_
 refine nx J1 (sr λ_ J2=>PS ?_);refine nx J2 (ab λ_ J3=>sr λ_ J4=>P2 ?_);refine FA 0 Tryz.underlying156 DR ?_;refine tp (aM (vs:=dr bs) rfl Jc rfl DR rfl (RO 0) (x8 bs) (uW (x8 bs))) ?_;refine PS ?_;refine nx J4 (aq ?_)
 refine bn (α:=(Nat)) (λi=>i≤5) (λi=>[(2,(.int .i64 0)),(3,(.int .i64 (((kJ W (i*5):Nat):Int)))),(11,(.agg (dr bs).toArray)),(12,(.int .i64 (((i:Nat):Int))))]) (λi=>[ag n (dr bs) 156,eB 208 5 bs (W)]) (λi=>5-i) 0
  (aN _) SB
  (λ_ s=>s) (λi hinv=>?_)
 obtain hi:=hinv;refine sr λ_ J5=>PS ?_
 refine an ?_ ?_<;>intro h13;refine nx J5 (ab λ_ J6=>CY (qx J6 (ab λ_ J7=>aq (sr λ_ J8=>tp (N7 (cs:=dr bs) (vs:=rI bs i) (r:=i*5) rfl Jc HZ rfl Ar rfl rfl (by omega) (by omega) (by omega) (GP bs (by omega))) ?_))));refine XA Nd λb5=>?_
 refine bF (vs:=rI bs i) (i:=0) (aa rfl) rfl rfl rfl rfl rfl (by rw[nJ bs i];exact Ar) (GO bs i) rfl rfl (by rw[nJ bs i];exact aK _) (fi (Eq.trans (rfl:_=5) (by rw[nJ bs i]:(rI bs i).length=5).symm)) rfl (nx J8 (sr λ_ J9=>tp (aM (vs:=rI bs i) rfl HZ rfl Ar rfl (RO 0) (nJ bs i) (uW (nJ bs i))) ?_));refine PS ?_;refine nx J9 (aq ?_)
 refine bn (α:=(Nat)) (λj=>j≤5) (λj=>[(2,(.int .i64 0)),(3,(.int .i64 (((kJ W (i*5+j):Nat):Int)))),(11,(.agg (dr bs).toArray)),(12,(.int .i64 (((i:Nat):Int)))),(15,(.agg (rI bs i).toArray)),(16,(.int .i64 (((j:Nat):Int))))]) (λj=>[ag n (dr bs) 156,eB 208 5 bs (W)]) (λj=>5-j) 0
  (aN _) SB
  (λ_ s=>ak [1,1] rfl s) (λj hinv=>?_)
 obtain hj:=hinv;refine sr λ_ J10=>PS ?_
 refine an ?_ ?_<;>intro h17;refine nx J10 (ab λ_ J11=>CY (qx J11 (ab λ_ J12=>aq (sr λ_ J13=>tp (kE (cs:=rI bs i) (v:=GW bs (i*5+j)) (r:=j) rfl HZ wO rfl DU rfl rfl (by omega) (by omega) (by omega) (D4 bs i (by omega))) ?_))));refine PS ?_;refine nx J13 (sr λ_ J14=>PS ?_);refine tp (PV.ptrNeIf rfl wO rfl rfl) ?_;refine aW ?_ ?_<;>intro h20;have h20: ¬((i*5+j)%6=0):=by simpa using h20
 refine TL.weak (L':=[(2,(.int .i64 0)),(3,(.int .i64 (((kJ W (i*5+j):Nat):Int)))),(7,(.pointer (some ⟨(bs.getD (i*5+j) 0),0,none⟩))),(11,(.agg (dr bs).toArray)),(12,(.int .i64 (((i:Nat):Int)))),(15,(.agg (rI bs i).toArray)),(16,(.int .i64 (((j:Nat):Int)))),(17,(.bool true)),(18,(GW bs (i*5+j))),(19,(GW bs (i*5+j))),(20,(.bool true))]) (bd rfl rfl (bd rfl rfl (bd rfl (if_neg h20) (bd rfl rfl (bd rfl rfl (bd rfl rfl (bd rfl rfl (bd rfl rfl (bd rfl rfl (bd rfl rfl (bd rfl rfl SB))))))))))) (λ_ s=>s) (cq (H':=[gB 208 5 (bs.getD (i*5+j) 0) (W.getD (i*5+j) []),fl 208 5 bs W (i*5+j),ag n (dr bs) 156]) (λ_ s=>HS h20 (by omega) (az [1] rfl s)) (nx J14 (CY (ad (P2 ?_)))));refine CE tG (ja (bs.getD (i*5+j) 0) (W.getD (i*5+j) [])) ID ?_;refine tp (cg (r:=((kJ W (i*5+j)+(W.getD (i*5+j) []).length:Nat):Int)) rfl rfl rfl (by rw[←Int.natCast_add];exact bH (by omega) (by have:=hsm (i*5+j) (by omega);omega))) ?_;refine PS ?_;refine ap (af (ac J12 (ad (AD ?_))));refine PS ?_;refine ap ?_
 exact aI ((j+1):(Nat)) (by omega) (by show 5- (j+1)<5-j;omega)
  (aL (bd rfl (by rw[show kJ W (i*5+(j+1))=kJ W (i*5+j)+(W.getD (i*5+j) []).length from by rw[←oY,qK,if_neg h20]]) SB))
  (λ_ s=>az [1,0] rfl (HQ h20 (by omega) (ak [0,0,0] rfl s)))
 refine nx J14 (CN (aQ (af (ac J12 (ad (AD ?_))))));refine PS ?_;refine ap ?_
 exact aI ((j+1):(Nat)) (by omega) (by show 5- (j+1)<5-j;omega)
  (aL (bd rfl (by rw[show kJ W (i*5+(j+1))=kJ W (i*5+j)from by rw[←oY,qK,if_pos (by simpa using h20),H8]]) SB))
  (λ_ s=>s)
 refine nx J10 (ab λ_ J15=>CN (aS (ay (ay (bj (af (ac J7 (ad (AD ?_)))))))));refine PS ?_;refine ap ?_
 exact aI ((i+1):(Nat)) (by omega) (by show 5- (i+1)<5-i;omega)
  (aL (bd rfl (by rw[show(i+1)*5=i*5+j by omega]) SB))
  (λ_ s=>s)
 refine nx J5 (ab λ_ J16=>CN (aS (ay (ay (bj (ac J3 (sr λ_ J17=>P2 ?_)))))));refine nx J17 (ai (WK [0,0] (au rfl rfl ?_)));exact⟨by rw[show i*5=25 by omega],rfl⟩
theorem tI(n:Nat)(W:List (List (List UInt8)))(hsm: ∀k,k<25→kJ W k+(W.getD k []).length≤1000000000):DT 66 #[.pointer (some ⟨n,0,none⟩)] T0 [dL 156 208 5 n W] (RI (.int .i64 ((kJ W 25:Nat):Int)) [dL 156 208 5 n W]):=
 Leg.Does.pack (B:=[]) λbs=>Leg.Does.fold (zm n bs W hsm) λe H hp=>by
  cases e with
  |returned v=>
   obtain⟨rfl,rfl⟩:=hp;exact⟨[dL 156 208 5 n W],λ_ s=>bi (p:=λbs:List Nat=>[ag n (dr bs) 156,eB 208 5 bs W]) (H:=[]) bs s,rfl,rfl⟩
  |panicked c=>exact hp.elim
  |outgrown=>exact hp.elim
theorem HT{T U:Nat}{bs:List Nat}{b:Nat}(h: ¬bs.length%6=0):oB T U (bs++[b]) bs.length=gB T U b []:=by
 unfold oB;rw[if_neg h,List.getD_eq_getElem?_getD,List.getElem?_append_right (aK _),xG];rfl
theorem DH{T U:Nat}{bs:List Nat}{b:Nat}(hl: ¬bs.length%6=0){H:List HP}{h:Hl}(s:bC (gB T U b []::jY T U bs::H) h):bC (jY T U (bs++[b])::H) h:=tV T U bs b (by rw[HT hl];exact s)
theorem A7:
 DT 53 #[] T0 [] (c9 (λv H=>∃n,v= .pointer (some ⟨n,0,none⟩)∧H=[dL 156 208 5 n (List.replicate 25 [])])):=by
 refine Leg.Does.body (vs:=[]) (n:=26) Tryz.func53 rfl rfl rfl (λw0 F hF=>?_);refine sr λ_ J1=>?_
 refine oW ?_;refine nx J1 ?_;refine sr λ_ J2=>?_
 refine tp (jL (cells:=#[(.pointer none),(.pointer none),(.pointer none),(.pointer none),(.pointer none),(.pointer none),(.pointer none),(.pointer none),(.pointer none),(.pointer none),(.pointer none),(.pointer none),(.pointer none),(.pointer none),(.pointer none),(.pointer none),(.pointer none),(.pointer none),(.pointer none),(.pointer none),(.pointer none),(.pointer none),(.pointer none),(.pointer none),(.pointer none)]) rfl rfl (by as_aux_lemma=>kernel_rfl)) ?_;refine TL.box (aa rfl) rfl rfl rfl rfl (λb5=>?_);change TL _ _ _ _ _ _ _ _ _ [ag b5 [(.pointer none),(.pointer none),(.pointer none),(.pointer none),(.pointer none),(.pointer none),(.pointer none),(.pointer none),(.pointer none),(.pointer none),(.pointer none),(.pointer none),(.pointer none),(.pointer none),(.pointer none),(.pointer none),(.pointer none),(.pointer none),(.pointer none),(.pointer none),(.pointer none),(.pointer none),(.pointer none),(.pointer none),(.pointer none)] 156];refine oW ?_;refine nx J2 ?_;refine ab λ_ J3=>?_
 refine sr λ_ J4=>?_
 refine mv ?_;refine nx J4 ?_;refine aq ?_
 refine bn (α:=(Nat)×(List Nat)) (λ⟨i,bs⟩=>i≤5∧bs.length=i*5) (λ⟨i,bs⟩=>[(0,(.pointer none)),(1,(.pointer (some ⟨b5,0,none⟩))),(6,(.int .i64 (((i:Nat):Int))))]) (λ⟨i,bs⟩=>[ag b5 (lm (bs)) 156,jY 208 5 (bs)]) (λ⟨i,bs⟩=>5-i) (0,[])
  ⟨aN _,rfl⟩ (aL (aL (bd rfl (by congr 1) (mU _))))
  (λ_ s=>az [1,0] rfl (DE 208 5 s)) (λ⟨i,bs⟩ hinv=>?_)
 obtain⟨hi,hbs⟩:=hinv;refine sr λ_ J5=>?_
 refine tp (Jh rfl rfl rfl) ?_;refine an (λh7=>?_) (λh7=>?_);refine nx J5 ?_;refine ab λ_ J6=>?_
 refine iG rfl ?_;refine aQ ?_;refine ac J6 ?_;refine ab λ_ J7=>?_
 refine aq ?_;refine sr λ_ J8=>?_
 refine mv ?_;refine oW ?_;refine nx J8 ?_;refine sr λ_ J9=>?_
 refine mv ?_;refine nx J9 ?_;refine aq ?_
 refine bn (α:=(Nat)×(List Nat)) (λ⟨j,bs2⟩=>j≤5∧bs2.length=i*5+j) (λ⟨j,bs2⟩=>[(0,(.pointer none)),(1,(.pointer (some ⟨b5,0,none⟩))),(2,(.int .i64 (((i:Nat):Int)))),(6,(.int .i64 (((i:Nat):Int)))),(9,(.int .i64 (((j:Nat):Int))))]) (λ⟨j,bs2⟩=>[ag b5 (lm (bs2)) 156,jY 208 5 (bs2)]) (λ⟨j,bs2⟩=>5-j) (0,bs)
  ⟨aN _,hbs⟩ (aL (aL (aL (aL (bd rfl (by congr 1) (mU _))))))
  (λ_ s=>s) (λ⟨j,bs2⟩ hinv=>?_)
 obtain⟨hj,hbl⟩:=hinv;refine sr λ_ J10=>?_
 refine tp (Jh rfl rfl rfl) ?_;refine an (λh10=>?_) (λh10=>?_);refine nx J10 ?_;refine ab λ_ J11=>?_
 refine iG rfl ?_;refine aQ ?_;refine ac J11 ?_;refine ab λ_ J12=>?_
 refine aq ?_;refine sr λ_ J13=>?_
 refine mv ?_;refine oW ?_;refine nx J13 ?_;refine sr λ_ J14=>?_
 refine mv ?_;refine mv ?_;refine tp (PV.neq rfl rfl rfl) ?_;refine an (λh14=>?_) (λh14=>?_);refine nx J14 ?_;refine iG rfl ?_;refine lR (λw=>Frm F w∧True) df rfl (λ_ s=>⟨dT s,trivial⟩) ?_;refine ta 0 rfl (cj rfl rfl) ?_;refine ta 1 rfl (cj rfl rfl) ?_;refine ta 2 rfl (cj rfl rfl) ?_;refine ta 4 rfl (fT rfl rfl) ?_;refine ta 5 rfl (aV (r:=0) rfl Tryz.underlying156 rfl DR rfl rfl) ?_;refine ta 6 rfl (eF (r:=i*5) rfl Jc Ar rfl rfl (by omega) (by omega) (by omega)) ?_;refine cw [3] (by kernel_rfl) rfl ?_;refine aE rfl ?_ ?_;refine gP (A:=[]) (aa rfl) rfl rfl rfl Nq rfl (BO) (λ_ s=>s) (λ_ _ _=>trivial) (λvR HR hR=>?_);obtain⟨bx,rfl,rfl⟩:=hR;change TL _ _ _ _ _ _ _ _ _ [gB 208 5 bx [],ag b5 (lm (bs2)) 156,jY 208 5 (bs2)];refine ap ?_;refine mT (λ_ s=>⟨dT s,trivial⟩) ?_;refine ta 7 rfl (eF (r:=i*5+j) rfl HZ DU rfl rfl (by omega) (by omega) (by omega)) ?_;refine cw [8] (by kernel_rfl) rfl ?_;refine aE rfl ?_ ?_;refine bv (i:=1) (H':=[gB 208 5 bx [],ag b5 (lm (bs2++[bx])) 156,jY 208 5 (bs2)]) (aa rfl) rfl rfl rfl rfl rfl DU rfl rfl (by rw[x9];omega) (by rw[show i*5+j=bs2.length by omega];exact Ft (by omega) (by omega)) rfl ?_;refine ap ?_;refine mT (λ_ s=>⟨dT s,trivial⟩) ?_;refine Ob (by kernel_rfl) ?_;refine af ?_;refine ac J12 ?_;refine ad ?_;refine tp (cg rfl rfl rfl (bH (by omega) (by omega))) ?_;refine mv ?_;refine ap ?_
 exact aI ((j+1,bs2++[bx]):(Nat)×(List Nat)) ⟨by omega,by rw[aj,gd];omega⟩ (by show 5- (j+1)<5-j;omega)
  (aL (aL (aL (aL (bd rfl (by simp) (mU _))))))
  (λ_ s=>show bC [ag b5 (lm (bs2++[bx])) 156,jY 208 5 (bs2++[bx])] _ from az [1,0] rfl (DH (by omega) (ak [0,1,0] rfl s)))
 exact bw;exact bw;refine nx J14 ?_;refine sz rfl ?_;refine aQ ?_;refine af ?_;refine ac J12 ?_;refine ad ?_;refine tp (cg rfl rfl rfl (bH (by omega) (by omega))) ?_;refine mv ?_;refine ap ?_
 exact aI ((j+1,bs2++[0]):(Nat)×(List Nat)) ⟨by omega,by rw[aj,gd];omega⟩ (by show 5- (j+1)<5-j;omega)
  (aL (aL (aL (aL (bd rfl (by simp) (mU _))))))
  (λ_ s=>show bC [ag b5 (lm (bs2++[0])) 156,jY 208 5 (bs2++[0])] _ by rw[CG (by omega)];exact az [1,0] rfl (BN 208 5 bs2 (by omega) (az [1,0] rfl s)))
 refine nx J10 ?_;refine ab λ_ J15=>?_
 refine sz rfl ?_;refine aS ?_;refine ay ?_;refine ay ?_;refine bj ?_;refine af ?_;refine ac J7 ?_;refine ad ?_;refine tp (cg rfl rfl rfl (bH (by omega) (by omega))) ?_;refine mv ?_;refine ap ?_
 exact aI ((i+1,bs2):(Nat)×(List Nat)) ⟨by omega,by omega⟩ (by show 5- (i+1)<5-i;omega)
  (aL (aL (bd rfl (by simp) (mU _))))
  (λ_ s=>s)
 refine nx J5 ?_;refine ab λ_ J16=>?_
 refine sz rfl ?_;refine aS ?_;refine ay ?_;refine ay ?_;refine bj ?_;refine ac J3 ?_;refine sr λ_ J17=>?_
 refine mv ?_;refine oW ?_;refine nx J17 ?_;refine ai ?_;refine aF (H':=[dL 156 208 5 b5 (List.replicate 25 [])]) (dh _) (λ_ s=>bi (p:=λbs:List Nat=>[ag b5 (dr bs) 156,eB 208 5 bs (List.replicate 25 [])]) (H:=[]) bs (by rw[←Fu (by omega),←DG (by omega)];exact s)) ?_;refine au rfl rfl ?_;exact⟨b5,rfl,rfl⟩
end Go.Proofs.YtjblgopghhgflaaGreat
end

section
namespace Leg
open Go Codec Api
def ey(n:Nat)(D M P:Nat→Value):List Value:= .pointer (some ⟨n,0,none⟩)::((List.range 5).map D++((List.range 5).map M++(List.range 5).map P))
section
variable (n:Nat) (D M P:Nat→Value) {i:Nat}
theorem qU:(ey n D M P).length=16:=by simp[ey]
theorem xo:(ey n D M P)[0]?=some (.pointer (some ⟨n,0,none⟩)):=rfl
theorem BI(h:i<5):(ey n D M P)[1+i]?=some (D i):=by
 rw[lU,ey,List.getElem?_cons_succ,List.getElem?_append_left (by simpa using h)];simp[h]
theorem wB(h:i<5):(ey n D M P)[6+i]?=some (M i):=by
 rw[show 6+i=(5+i)+1 by omega,ey,List.getElem?_cons_succ,List.getElem?_append_right (by simp),List.getElem?_append_left (by simp;omega)];simp[h]
theorem MG(h:i<5):(ey n D M P)[11+i]?=some (P i):=by
 rw[show 11+i=(10+i)+1 by omega,ey,List.getElem?_cons_succ,List.getElem?_append_right (by simp;omega),List.getElem?_append_right (by simp;omega)];simp only[bU,kN];rw[show 10+i-5-5=i by omega];simp[h]
end
def kG{α:Type}(f:Nat→α)(i:Nat)(v:α):Nat→α:=λj=>if j=i then v else f j
theorem iK{α:Type}(f:Nat→α)(i:Nat)(v:α):kG f i v i=v:=if_pos rfl
theorem mx{α:Type}(f:Nat→α){i j:Nat}(v:α)(h:j≠i):kG f i v j=f j:=if_neg h
theorem zr{α:Type}(f:Nat→α){i k:Nat}(h:i<k)(v:α):((List.range k).map f).set i v=(List.range k).map (kG f i v):=by
 refine List.ext_getElem? λj=>?_
 by_cases hj:j=i
 · subst hj
   rw[List.getElem?_set_self (by simpa using h)];simp[h,iK]
 · rw[List.getElem?_set_ne (λe=>hj e.symm)]
   by_cases hk:j<k
   · simp[hk,mx f v hj]
   · simp[hk]
section
variable (n:Nat) (D M P:Nat→Value) {i:Nat} (v:Value)
theorem I6(h:i<5):(ey n D M P).set (1+i) v=ey n (kG D i v) M P:=by
 rw[lU,ey,bN,pV _ _ (by simpa using h),zr D h];rfl
theorem uD(h:i<5):(ey n D M P).set (6+i) v=ey n D (kG M i v) P:=by
 rw[show 6+i=(5+i)+1 by omega,ey,bN,fZ _ _ (by simp),pV _ _ (by simp;omega)];simp only[bU,kN];rw[show 5+i-5=i by omega,zr M h];rfl
theorem Ex(h:i<5):(ey n D M P).set (11+i) v=ey n D M (kG P i v):=by
 rw[show 11+i=(10+i)+1 by omega,ey,bN,fZ _ _ (by simp;omega),fZ _ _ (by simp;omega)];simp only[bU,kN];rw[show 10+i-5-5=i by omega,zr P h];rfl
end
abbrev Lo(c i:Nat):Value:= .agg #[.pointer (some ⟨c,0,none⟩), .int .i64 ((i:Nat):Int)]
end Leg
namespace Go.Proofs.YtjblgopghhgflaaGreat
open Go Leg Codec Api Dsk Wal
section
variable {CT NT BT U c n d i:Nat} {D M P:Nat→Value} {W:List (List (List UInt8))} {recs:List (List UInt8)} {l:List SaidT} {H:List HP} {h:Hl}
end
end Go.Proofs.YtjblgopghhgflaaGreat
end

section
namespace Api
open Go Leg Codec Dsk Wal
structure MS(δ:Type) where
 id:Int
 view:ViewT
 own:RowT
 mirror:MirT
 acc:AccT
 round:Int
 vote:Option VoteT
 book:BookT
 busy:Bool
 kept:Int
 waits:Int
 ops:Int
 replies:List ReplyT
 told:Vector Int 5
 last:Vector RowT 5
 e:δ
 o:List SaidT
structure Adr where
 lg:Nat
 vo:Value
 rs:Value
structure Dk(δ:Type) where
 pt:δ→List UInt8→δ×Int
 dn:δ→Bool
 ok:δ→Prop
 sure: ∀(e:δ) (bs:List UInt8),ok e→bs.length≤3000→ok (pt e bs).1
variable {δ:Type}
abbrev MS.rep(s:MS δ)(a:Adr):RepT:=⟨s.id, .pointer (some ⟨a.lg,0,none⟩),s.view,s.own,s.mirror,s.acc,s.round,a.vo,s.book,s.busy,s.kept,s.waits,s.ops,a.rs,s.told,s.last⟩
def MS.setView(s:MS δ)(v:ViewT):MS δ:= {s with view:=v}
def MS.setOwn(s:MS δ)(v:RowT):MS δ:= {s with own:=v}
def MS.setAcc(s:MS δ)(v:AccT):MS δ:= {s with acc:=v}
def MS.setRound(s:MS δ)(v:Int):MS δ:= {s with round:=v}
def MS.setBusy(s:MS δ)(v:Bool):MS δ:= {s with busy:=v}
def MS.setKept(s:MS δ)(v:Int):MS δ:= {s with kept:=v}
def MS.setWaits(s:MS δ)(v:Int):MS δ:= {s with waits:=v}
def MS.setOps(s:MS δ)(v:Int):MS δ:= {s with ops:=v}
def MS.setTold(s:MS δ)(v:Vector Int 5):MS δ:= {s with told:=v}
def MS.setLast(s:MS δ)(v:Vector RowT 5):MS δ:= {s with last:=v}
def Adr.nil:Adr:=⟨0, .pointer none, .slice none 0 0⟩
def cU(w:Int):Int:=IntKind.i64.wrap (1*2^min w.toNat IntKind.i64.bits)
def Bc(a b:BallotT):Bool:=if a.round≠b.round then decide (a.round<b.round)else decide (a.who<b.who)
def yz(a:AccT)(ep:Int)(b:BallotT):Bool:=decide (ep≠a.epoch)||(decide (b.round<1)||Bc b a.vow)
def bP(a:AccT)(ep:Int)(b:BallotT):AccT×Bool:=if yz a ep b then(a,false)else({a with vow:=b},true)
def gi(a:AccT)(ep:Int)(b:BallotT)(c:ChangeT):AccT×Bool:=if yz a ep b then(a,false)else({a with vow:=b,had:=b,change:=c},true)
def kI(bits:Int)(k:Nat):List Int:=((List.range k).filter λi:Nat=>Gf bits ((i:Nat):Int)).map λi:Nat=>((i:Nat):Int)
def Cq(bits:Int):List Int:=kI bits 5
def JN(part all:Int):Bool:=decide (2* (((Cq (sw .i64 part all)).length:Nat):Int)>(((Cq all).length:Nat):Int))
def gp(v:ViewT)(bits:Int):Bool:=JN bits v.members
def jR(v:ViewT)(b:BallotT)(c:ChangeT):VoteT:= {VoteT.zero with view:=v,ballot:=b,change:=c}
def ng(v:VoteT)(who:Int)(b:BallotT):Bool:=decide (b.flat=v.ballot.flat)&&iD v.view who
def uS(v:VoteT)(who:Int)(had:BallotT)(c:ChangeT):VoteT:=
 if decide (0<had.round)&&Bc v.best had then {v with vowed:=iu .i64 v.vowed (cU who),best:=had,change:=c}else {v with vowed:=iu .i64 v.vowed (cU who)}
def eI(v:VoteT)(who:Int)(b had:BallotT)(c:ChangeT):VoteT×Bool:=
 if v.putting|| !ng v who b then(v,false)else({uS v who had c with putting:=gp v.view (iu .i64 v.vowed (cU who))},gp v.view (iu .i64 v.vowed (cU who)))
def gh(v:VoteT)(who:Int)(b:BallotT):VoteT×Bool:=
 if !v.putting|| !ng v who b then(v,false)else({v with took:=iu .i64 v.took (cU who)},gp v.view (iu .i64 v.took (cU who)))
def od(x:RowT)(who v:Int)(l:Vector CellT 4):RowT:=if h:cF who=true then {x with heir:=x.heir.set who.toNat v (fh h),left:=x.left.set who.toNat l (fh h)}else x
def vY(x:RowT)(who:Int):Vector CellT 4:=if h:cF who=true then x.left[who.toNat]'(fh h)else RowT.zero.cells
def m8(who:Int)(dead:RowT)(x:RowT)(i:Nat):RowT:=if((i:Nat):Int)≠who∧0<fK dead ((i:Nat):Int)∧fK x ((i:Nat):Int)=0 then od x ((i:Nat):Int) (fK dead ((i:Nat):Int)) (vY dead ((i:Nat):Int))else x
def nT(x:RowT)(who:Int)(dead:RowT)(k:Nat):RowT:=(List.range k).foldl (m8 who dead) (od x who (fM (dead.version+1)) dead.cells)
def dI(x:RowT)(who:Int)(dead:RowT):RowT×Int:=
 if !cF who then(.zero,5)else if 0<fK x who then(.zero,8)else({nT x who dead 5 with version:=fM ((nT x who dead 5).version+1)},0)
def qu(s:MS δ)(who:Int):Int:=if h:cF who=true then s.told[who.toNat]'(fh h)else 0
def nl(s:MS δ)(who:Int):RowT:=if h:cF who=true then s.last[who.toNat]'(fh h)else .zero
def AK{α:Type}(v:Vector α 5)(w:Int)(x:α):Vector α 5:=if h:cF w=true then v.set w.toNat x (fh h)else v
def lv(s:MS δ)(who:Int)(y:RowT):MS δ:= {s with last:=if qu s who=0∨(nl s who).version<y.version then AK s.last who y else s.last}
def uU(s:MS δ)(from' who:Int)(y:RowT):MS δ:= {lv s who y with told:=AK s.told who (iu .i64 (qu s who) (cU from'))}
def uV(s:MS δ)(who w:Int):Bool:=decide ((qu s who).fdiv (2^min w.toNat IntKind.i64.bits)%2=1)
def Bv(s:MS δ)(i:Nat):Bool:=decide (jv s.view ((i:Nat):Int)=some s.id)&&decide (fK s.own ((i:Nat):Int)≤0)
def gN(s:MS δ)(k:Nat):List Int:=((List.range k).filter (Bv s)).map λi:Nat=>((i:Nat):Int)
def bB(s:MS δ):List Int:=gN s 5
def uz(s:MS δ):Bool:=(bB s).all λi=>(gE i).all λw=>uV s i w
def pH(s:MS δ)(l:List Int):RowT:=l.foldl (λx i=>if 0<fK x i then x else(dI x i (nl s i)).1) s.own
def jO(v:ViewT):MsgT:= {MsgT.zero with kind:=7,view:=v}
def oe(i:Int)(v:ViewT):MsgT:= {MsgT.zero with kind:=8,whose:=i,view:=v}
def fw(ep:Int)(b:BallotT):MsgT:= {MsgT.zero with kind:=3,epoch:=ep,ballot:=b}
def kr(ep:Int)(b had:BallotT)(c:ChangeT):MsgT:= {MsgT.zero with kind:=4,epoch:=ep,ballot:=b,had:=had,change:=c}
def iR(ep:Int)(b:BallotT)(c:ChangeT):MsgT:= {MsgT.zero with kind:=5,epoch:=ep,ballot:=b,change:=c}
def jB(ep:Int)(b:BallotT):MsgT:= {MsgT.zero with kind:=6,epoch:=ep,ballot:=b}
def gJ(ep:Int)(b:BallotT):RecT:= {RecT.zero with kind:=3,epoch:=ep,ballot:=b}
def l5(ep:Int)(b:BallotT)(c:ChangeT):RecT:= {RecT.zero with kind:=4,epoch:=ep,ballot:=b,change:=c}
def db(s:MS δ)(n:Int):MS δ:= {s with round:=n}
def la(s:MS δ)(v:VoteT):MS δ:= {s with vote:=some v}
def wN(s:MS δ)(a:AccT):MS δ:= {s with acc:=a}
variable (K:Dk δ)
def iC(s:MS δ)(l:List SaidT):MS δ:= {s with o:=if K.dn s.e then s.o else s.o++l}
def Cv(s:MS δ)(to':Int)(m:MsgT):MS δ:=iC K s [⟨to',m⟩]
theorem pw(s:MS δ):iC K s []=s:=by
 unfold iC;rw[bb,ite_self]
theorem GL(s:MS δ)(a b:List SaidT):iC K (iC K s a) b=iC K s (a++b):=by
 unfold iC
 by_cases h:K.dn s.e=true<;>simp[h]
def m6(f:MS δ→MS δ)(s:MS δ)(to':Int)(m:MsgT):MS δ:=if to'=s.id then f s else Cv K s to' m
def ef(s:MS δ)(r:RecT):MS δ:= {s with e:=(K.pt s.e (jG r)).1}
def rN(s:MS δ)(r:RecT):Int:=(K.pt s.e (jG r)).2
def dB(s:MS δ)(op err val:Int):MS δ:= {s with replies:=s.replies++[⟨op,err,val⟩]}
def fj(s:MS δ):MS δ:=iC K s (pj (s.rep .nil))
def nL(id:Int)(m:MsgT)(p:Nat→Bool)(k:Nat):List SaidT:=((List.range k).filter λi:Nat=> !decide (((i:Nat):Int)=id)&&p i).map λi:Nat=>⟨((i:Nat):Int),m⟩
theorem im(id:Int)(m:MsgT)(p:Nat→Bool)(k:Nat):nL id m p (k+1)=nL id m p k++(if((k:Nat):Int)≠id∧p k=true then [⟨((k:Nat):Int),m⟩]else []):=by
 unfold nL;rw[cO,List.filter_append,cQ]
 by_cases h:((k:Nat):Int)=id<;>by_cases h2:p k=true<;>simp[h,h2]
def mj(s:MS δ)(y:RowT):MS δ:=iC K s (nL s.id (rQ s.id y) (λ_=>true) 5)
def nC(s:MS δ)(v:ViewT):MS δ:=iC K s (nL s.id (jO v) (λ_=>true) 5)
def tP(s:MS δ)(x:RowT)(op:Int):MS δ:= {s with own:=x,busy:=true,kept:=0,waits:=op}
def eU(s:MS δ)(x:RowT)(op:Int):MS δ×Int:=if rN K s (kn x)≠0 then(ef K s (kn x),rN K s (kn x))else(fj K (tP (ef K s (kn x)) x op),0)
def mO(s:MS δ):MS δ:=if s.busy||decide ((bB s).length=0)then s else if uz s then(eU K s (pH s (bB s)) 0).1 else s
def gA(s:MS δ):MS δ:= {s with busy:=false,book:=(fu s.book s.id s.own).1}
def lW(s:MS δ):MS δ:= {s with replies:=if 0<s.waits then s.replies++[⟨s.waits,0,0⟩]else s.replies,waits:=if 0<s.waits then 0 else s.waits}
theorem xL{s:MS δ}(h:0<s.waits):lW s= {dB s s.waits 0 0 with waits:=0}:=by unfold lW;rw[if_pos h,if_pos h];rfl
theorem xM{s:MS δ}(h: ¬0<s.waits):lW s=s:=by unfold lW;rw[if_neg h,if_neg h]
def lx(s:MS δ):MS δ:=mO K (mj K (lW (gA s)) s.own)
def kS(s:MS δ)(from' ver:Int):Bool:=s.busy&&(decide (ver=s.own.version)&&decide (from'∈gE s.id))
def wl(s:MS δ):Bool:=(gE s.id).all λw=> !zR s.kept w
def iB(s:MS δ)(from':Int):MS δ:= {s with kept:=iu .i64 s.kept (cU from')}
def dF(s:MS δ)(from':Int)(m:MsgT):MS δ:=if kS s from' m.version then(if wl (iB s from')then lx K (iB s from')else iB s from')else s
def Ey(s:MS δ)(w:Int)(y:RowT):MS δ:= {s with book:=(fu s.book w y).1}
def iz(s:MS δ)(w:Int)(y:RowT):MS δ:= {s with mirror:=(ma s.mirror w y).1}
def iM(s:MS δ)(from':Int)(m:MsgT):MS δ:=
 if m.whose≠from'∨e8 s.mirror m.whose=true then s
 else if lr s.mirror m.whose m.row then(if rN K s (jW m.whose m.row)≠0 then ef K s (jW m.whose m.row)else Cv K (iz (ef K s (jW m.whose m.row)) m.whose m.row) from' (rZ (c7 (iz (ef K s (jW m.whose m.row)) m.whose m.row).mirror m.whose).version))
 else Cv K s from' (rZ (c7 s.mirror m.whose).version)
def fS(s:MS δ)(from':Int)(m:MsgT):MS δ:=mO K (if from'∈gE m.whose then uU s from' m.whose m.row else s)
def lN(s:MS δ)(w:Int):MS δ:= {s with mirror:=nR s.mirror w}
def fq(s:MS δ)(from' w:Int):MS δ:=
 let back:=λs:MS δ=>m6 K (λs=>fS K s s.id (gL w (c7 s.mirror w))) s from' (gL w (c7 s.mirror w))
 if jv s.view w≠some from' then s
 else if e8 s.mirror w then back s
 else if rN K s (jg w)≠0 then ef K s (jg w)else back (lN (ef K s (jg w)) w)
def gO(s:MS δ)(i w:Int):MS δ:=if uV s i w then s else m6 K (λs=>fq K s s.id i) s w (oe i s.view)
def pN(s:MS δ)(i:Int):MS δ:=gO K (gO K s i ((i+1)%5)) i ((i+2)%5)
def fR(l:List Int)(s:MS δ):MS δ:=l.foldl (pN K) s
def qT(s:MS δ):MS δ:=fR K (bB s) s
def mM(s:MS δ)(v:ViewT):MS δ:= {s with view:=v,acc:= {AccT.zero with epoch:=v.epoch},vote:=none,round:=0}
def p4(s:MS δ)(v:ViewT):Bool:=decide (s.view.epoch<v.epoch)&&decide (rN K s (kU v)=0)
def gY(s:MS δ)(v:ViewT):MS δ:=if v.epoch≤s.view.epoch then s else if rN K s (kU v)≠0 then ef K s (kU v)else qT K (mM (ef K s (kU v)) v)
def ml(s:MS δ)(from':Int)(m:MsgT):MS δ:=fq K (gY K s m.view) from' m.whose
def k8(s:MS δ)(c:ChangeT):MS δ:=if(dQ s.view c).2≠0 then s else if p4 K s (dQ s.view c).1 then nC K (gY K s (dQ s.view c).1) (dQ s.view c).1 else gY K s (dQ s.view c).1
def eJ(f:MS δ→MS δ)(s:MS δ)(from':Int)(m:MsgT):MS δ:=
 if m.epoch<s.view.epoch then(if m.kind=3∨m.kind=5 then Cv K s from' (jO s.view)else s)
 else if s.view.epoch<m.epoch∨iD s.view s.id=false then s
 else f (db s (max s.round m.ballot.round))
def lc(from':Int)(m:MsgT)(s:MS δ):MS δ:=match s.vote with
 |none=>s
 |some vt=>if(gh vt from' m.ballot).2 then k8 K (la s (gh vt from' m.ballot).1) vt.change else(la s (gh vt from' m.ballot).1)
def qz(s:MS δ)(from':Int)(m:MsgT):MS δ:=eJ K (lc K from' m) s from' m
def nK(from':Int)(m:MsgT)(s:MS δ):MS δ:=m6 K (λs=>qz K s s.id (jB m.epoch m.ballot)) s from' (jB m.epoch m.ballot)
def oI(from':Int)(m:MsgT)(s:MS δ):MS δ:=
 if(dQ s.view m.change).2≠0 then s else if(gi s.acc m.epoch m.ballot m.change).2=false then s
 else if(gi s.acc m.epoch m.ballot m.change).1.flat≠s.acc.flat then(if rN K s (l5 m.epoch m.ballot m.change)≠0 then ef K s (l5 m.epoch m.ballot m.change)else nK K from' m (wN (ef K s (l5 m.epoch m.ballot m.change)) (gi s.acc m.epoch m.ballot m.change).1))
 else nK K from' m s
def sM(s:MS δ)(from':Int)(m:MsgT):MS δ:=eJ K (oI K from' m) s from' m
def jx(s:MS δ)(m:MsgT):MS δ:=iC K s (nL s.id m (λi=>iD s.view ((i:Nat):Int)) 5)
def jC(f:MS δ→MsgT→MS δ)(s:MS δ)(m:MsgT):MS δ:=if iD s.view s.id then f (jx K s m) m else jx K s m
def ku(s:MS δ)(vt:VoteT):MS δ:=jC K (λs m=>sM K s s.id m) s (iR s.view.epoch vt.ballot vt.change)
def pd(from':Int)(m:MsgT)(s:MS δ):MS δ:=match s.vote with
 |none=>s
 |some vt=>if(eI vt from' m.ballot m.had m.change).2 then ku K (la s (eI vt from' m.ballot m.had m.change).1) (eI vt from' m.ballot m.had m.change).1 else(la s (eI vt from' m.ballot m.had m.change).1)
def qB(s:MS δ)(from':Int)(m:MsgT):MS δ:=eJ K (pd K from' m) s from' m
def nX(from':Int)(m:MsgT)(a:AccT)(s:MS δ):MS δ:=m6 K (λs=>qB K s s.id (kr m.epoch m.ballot a.had a.change)) s from' (kr m.epoch m.ballot a.had a.change)
def pR(from':Int)(m:MsgT)(s:MS δ):MS δ:=
 if(bP s.acc m.epoch m.ballot).2=false then s
 else if(bP s.acc m.epoch m.ballot).1.vow.flat≠s.acc.vow.flat then(if rN K s (gJ m.epoch m.ballot)≠0 then ef K s (gJ m.epoch m.ballot)else nX K from' m (bP s.acc m.epoch m.ballot).1 (wN (ef K s (gJ m.epoch m.ballot)) (bP s.acc m.epoch m.ballot).1))
 else nX K from' m (bP s.acc m.epoch m.ballot).1 s
def sN(s:MS δ)(from':Int)(m:MsgT):MS δ:=eJ K (pR K from' m) s from' m
def mF(s:MS δ)(vt:VoteT):MS δ:=jC K (λs m=>sN K s s.id m) s (fw s.view.epoch vt.ballot)
def oJ(s:MS δ)(vt:VoteT):MS δ:=if vt.putting then ku K s vt else mF K s vt
def eD(s:MS δ):BallotT:=⟨fM (s.round+1),s.id⟩
def qW(s:MS δ)(c:ChangeT):MS δ:=la (db (wN (ef K s (gJ s.view.epoch (eD s))) (bP s.acc s.view.epoch (eD s)).1) (eD s).round) (jR s.view (eD s) c)
def cz(s:MS δ)(c:ChangeT):MS δ×Int:=
 if(bP s.acc s.view.epoch (eD s)).2=false then(s,6)else if rN K s (gJ s.view.epoch (eD s))≠0 then(ef K s (gJ s.view.epoch (eD s)),rN K s (gJ s.view.epoch (eD s)))else(qW K s c,0)
def fH(s:MS δ)(c:ChangeT):Int:=if(dQ s.view c).2=0∧s.vote.isSome=true then 8 else(dQ s.view c).2
def eb(s:MS δ)(op:Int)(c:ChangeT):MS δ×Int:=
 if fH s c≠0 then(dB s op (fH s c) 0,fH s c)
 else if(cz K s c).2≠0 then(dB (cz K s c).1 op (cz K s c).2 0,(cz K s c).2)
 else(oJ K (dB (cz K s c).1 op 0 0) (jR s.view (eD s) c),0)
def c8(s:MS δ)(o:OpT):RowT×Int×Int:=j6 (s.rep .nil) o
def bK(s:MS δ):MS δ:= {s with ops:=fM (s.ops+1)}
def oE(s:MS δ)(o:OpT):MS δ×Int:=
 if(c8 s o).2.2≠0∨o.kind=3 then(dB s s.ops (c8 s o).2.2 (c8 s o).2.1,(c8 s o).2.2)
 else if(eU K s (c8 s o).1 s.ops).2≠0 then(dB (eU K s (c8 s o).1 s.ops).1 s.ops (eU K s (c8 s o).1 s.ops).2 0,(eU K s (c8 s o).1 s.ops).2)
 else((eU K s (c8 s o).1 s.ops).1,0)
def bY(s:MS δ)(o:OpT):MS δ×Int:=if iD s.view s.id&&decide (o.kind=4)then eb K (bK s) (bK s).ops o.change else oE K (bK s) o
def gf(s:MS δ)(from':Int)(m:MsgT):MS δ:=
 if m.kind=0 then iM K s from' m else if m.kind=1 then dF K s from' m else if m.kind=2 then Ey s m.whose m.row
 else if m.kind=7 then gY K s m.view else if m.kind=8 then ml K s from' m else if m.kind=9 then fS K s from' m
 else if m.kind=3 then sN K s from' m else if m.kind=4 then qB K s from' m else if m.kind=5 then sM K s from' m else if m.kind=6 then qz K s from' m else s
def bR(s:MS δ):MS δ:=qT K (mO K (if s.busy=true then fj K s else s))
def bZ(s:MS δ):MS δ:=if 1<s.view.epoch then nC K s s.view else s
def fV(s:MS δ):MS δ:=if 0< (cu s.book s.id).version then mj K s (cu s.book s.id)else s
def rA(s:MS δ):MS δ:=match s.vote with
 |none=>s
 |some vt=>if(dQ s.view vt.change).2=0 then(if(cz K s vt.change).2=0 then oJ K (cz K s vt.change).1 (jR s.view (eD s) vt.change)else(cz K s vt.change).1)else s
def iy(s:MS δ):MS δ:=if iD (bZ K (bR K s)).view (bZ K (bR K s)).id then rA K (fV K (bZ K (bR K s)))else bZ K (bR K s)
def js(s:MS δ)(m:RecT):MS δ:=
 if m.kind=0 then {s with own:=m.row,busy:=true,kept:=0}
 else if m.kind=1 then iz s m.whose m.row
 else if m.kind=2 then lN s m.whose
 else if m.kind=3 then {s with acc:= {s.acc with vow:=m.ballot},round:=max s.round m.ballot.round}
 else if m.kind=4 then {s with acc:= {s.acc with vow:=m.ballot,had:=m.ballot,change:=m.change},round:=max s.round m.ballot.round}
 else if m.kind=5 then mM s m.view
 else s
def lj:List (List UInt8)→MS δ→Option (MS δ)
 | [],s=>some s
 |b::bs,s=>if(nq b).2≠0 then none else lj bs (js s (nq b).1)
def DM(id:Int)(e:δ):MS δ:=⟨id, .zero, .zero, .zero, .zero,0,none, .zero,false,0,0,0,[], #v[0,0,0,0,0], #v[RowT.zero,RowT.zero,RowT.zero,RowT.zero,RowT.zero],e,[]⟩
def A6(id:Int)(e:δ):MS δ:=mM (DM id e) firstV
theorem Fj{ls:List (List UInt8)}{k:Nat}{s:MS δ}(h:k<ls.length)(g:(nq ls[k]).2≠0):lj (ls.drop k) s=none:=by
 rw[di h,lj,if_pos g]
theorem GS{ls:List (List UInt8)}{k:Nat}{s:MS δ}(h:k<ls.length)(g: ¬(nq ls[k]).2≠0):lj (ls.drop k) s=lj (ls.drop (k+1)) (js s (nq ls[k]).1):=by
 rw[di h,lj,if_neg g]
end Api
end

section
namespace Api
open Go Leg Codec Dsk Wal
theorem Bu(m:RecT):(jG m).length≤3000:=by
 have h1:=g8 m.row;have h2:=aT m.ballot.flat;have h4:=aT m.change.flat;have h5:=aT m.view.flat;have h6:=aT [m.kind,m.whose];have h8:=aT [m.kind,m.epoch];have h9:=aT [m.kind];simp only[BallotT.flat,ChangeT.flat,ViewT.flat,ax,aC,aA]at h2 h4 h5 h6 h8 h9;unfold jG
 repeat' split
 all_goals first|omega| (simp only[aj,BallotT.flat,ChangeT.flat,ViewT.flat,aC];omega)
abbrev wV(n:Int):Prop:= -9223372036854775808≤n∧n<9223372036854775808
theorem o7{n:Int}(h:wV n):(Lit.int .i64 n).wf=true:=by
 have m1:IntKind.i64.min= -9223372036854775808:=by decide
 have m2:IntKind.i64.max=9223372036854775807:=by decide
 simp only[Lit.wf,m1,m2,av,decide_eq_true_eq];omega
theorem m3(n:Int):wV (fM n):=by
 unfold fM wV;simp only[IntKind.wrap,IntKind.bits,IntKind.signed];simp;omega
structure CW(c:CellT):Prop where
 inn:wV c.inn
 out:wV c.out
 given: ∀(j:Nat) (h:j<5),wV c.given[j]
class OkRow(y:RowT):Prop where
 version:wV y.version
 cells: ∀(k:Nat) (h:k<4),CW y.cells[k]
 heir: ∀(i:Nat) (h:i<5),wV y.heir[i]
 left: ∀(i k:Nat) (h:i<5) (g:k<4),CW y.left[i][k]
theorem rq{α:Type}{n:Nat}{v:Vector α n}{x:α}(h:x∈v.toList): ∃(j:Nat) (h:j<n),x=v[j]:=by
 obtain⟨j,hj,rfl⟩:=fa h;rw[aA]at hj;exact⟨j,hj,by simp⟩
theorem Ek{α:Type}{n:Nat}(v:Vector α n)(j:Nat)(h:j<n):v[j]∈v.toList:=by simp
theorem xK{m:Nat}{v:Vector CellT m}(h: ∀(k:Nat) (h:k<m),CW v[k]):WF (bL v.toList):=λn hn=>by
 obtain⟨c,hc,hn⟩:=jM.1 hn;obtain⟨k,hk,rfl⟩:=rq hc;simp only[CellT.flat,cn]at hn;rcases hn with rfl|rfl|hn
 · exact o7 (h k hk).inn
 · exact o7 (h k hk).out
 · obtain⟨j,hj,rfl⟩:=rq hn
   exact o7 ((h k hk).given j hj)
theorem OkRow.wf{x:RowT}(h:OkRow x):WF x.flat:=λn hn=>by
 simp only[RowT.flat,cn,ez]at hn;rcases hn with rfl|hn|hn|hn
 · exact o7 h.version
 · exact xK h.cells n hn
 · obtain⟨j,hj,rfl⟩:=rq hn
   exact o7 (h.heir j hj)
 · obtain⟨v,hv,hn⟩:=jM.1 hn
   obtain⟨j,hj,rfl⟩:=rq hv;exact xK (λk hk=>h.left j k hj hk) n hn
abbrev H7:= @OkRow.wf
theorem CW.of{m:Nat}{v:Vector CellT m}(h:WF (bL v.toList))(k:Nat)(hk:k<m):CW v[k]:=by
 have q: ∀n∈v[k].flat,wV n:=λn hn=>Ad (h n (jM.2 ⟨_,Ek v k hk,hn⟩))
 exact⟨q _ (by simp[CellT.flat]),q _ (by simp[CellT.flat]),λj hj=>q _ (by simp[CellT.flat])⟩
theorem OkRow.of{x:RowT}(h:WF x.flat):OkRow x:=
 ⟨Ad (h _ (by simp[RowT.flat])),CW.of λn hn=>h n (by simp[RowT.flat,hn]),λi hi=>Ad (h _ (by simp[RowT.flat])),
  λi k hi hk=>CW.of (λn hn=>h n (by simp only[RowT.flat,cn,ez,jM];exact .inr (.inr (.inr ⟨_,Ek x.left i hi,hn⟩)))) k hk⟩
class OkVw(v:ViewT):Prop where
 rng:Rng v
 wf:WF v.flat
class OkVt(v:VoteT):Prop where
 view:OkVw v.view
 ballot:WF v.ballot.flat
 change:WF v.change.flat
 best:WF v.best.flat
class OkMg(m:MsgT):Prop where
 row:OkRow m.row
 view:OkVw m.view
 ballot:WF m.ballot.flat
 had:WF m.had.flat
 change:WF m.change.flat
variable {δ:Type}
class OkR(K:outParam (Dk δ))(s:MS δ):Prop where
 e:K.ok s.e
 id:cF s.id=true
 view:OkVw s.view
 own:OkRow s.own
 mir: ∀(i:Nat) (h:i<5),OkRow s.mirror.rows[i]
 book: ∀(i:Nat) (h:i<5),OkRow s.book.rows[i]
 last: ∀(i:Nat) (h:i<5),OkRow s.last[i]
 acc:WF s.acc.flat
 vote: ∀vt,s.vote=some vt→OkVt vt
variable {K:Dk δ}
instance OkRow.zero:OkRow RowT.zero:=OkRow.of tame_rzero.wf
theorem CW.zero:CW .zero:=⟨by decide,by decide,λj hj=>by
 match j,hj with
 |0,_|1,_|2,_|3,_|4,_=>exact⟨(by decide:(-9223372036854775808:Int)≤0),(by decide:(0:Int)<9223372036854775808)⟩⟩
instance {s:MS δ}[h:OkR K s]:OkRow s.own:=h.own
instance {s:MS δ}[h:OkR K s]:OkVw s.view:=h.view
instance {m:MsgT}[h:OkMg m]:OkRow m.row:=h.row
instance {m:MsgT}[h:OkMg m]:OkVw m.view:=h.view
theorem n7{α:Type}{n:Nat}{p:α→Prop}{v:Vector α n}{i:Nat}(hi:i<n){x:α}(h: ∀(j:Nat) (hj:j<n),p v[j])(hx:p x)(j:Nat)(hj:j<n):p (v.set i x hi)[j]:=by
 rw[Vector.getElem_set];split
 · exact hx
 · exact h j hj
instance {s:MS δ}[h:OkR K s](w:Int):OkRow (c7 s.mirror w):=by unfold c7;split;exact h.mir _ _;exact .zero
instance {s:MS δ}[h:OkR K s](w:Int):OkRow (cu s.book w):=by unfold cu;split;exact h.book _ _;exact .zero
instance {s:MS δ}[h:OkR K s](w:Int):OkRow (nl s w):=by unfold nl;split;exact h.last _ _;exact .zero
theorem th{x:RowT}[h:OkRow x](key:Int):CW (dC x key):=by unfold dC;split;exact h.cells _ _;exact .zero
theorem F1{x:RowT}[h:OkRow x](i:Int):wV (fK x i):=by unfold fK;split;exact h.heir _ _;exact⟨by decide,by decide⟩
theorem FS{x:RowT}[h:OkRow x](i:Int)(k:Nat)(hk:k<4):CW (vY x i)[k]:=by unfold vY;split;exact h.left _ _ _ _;exact OkRow.zero.cells k hk
theorem vN{x:RowT}[h:OkRow x]{key n counts:Int}{c:CellT}(hc:CW c):OkRow (lq x key n counts c).1:=by
 unfold lq;split
 · exact .zero
 · refine⟨m3 _,λk hk=>?_,λi hi=>?_,λi k hi hk=>?_⟩
   · show CW (kX x key c).cells[k]
     unfold kX;split
     · exact n7 (p:=CW) (zu (by assumption)) h.cells hc k hk
     · exact h.cells k hk
   · show wV (kX x key c).heir[i]
     unfold kX;split<;>exact h.heir i hi
   · show CW (kX x key c).left[i][k]
     unfold kX;split<;>exact h.left i k hi hk
instance {x:RowT}[OkRow x](key n:Int):OkRow (px x key n).1:=by
 unfold px;split
 · have:=th (x:=x) key
   exact vN ⟨m3 _,this.out,this.given⟩
 · exact .zero
instance {x:RowT}[OkRow x](key n:Int):OkRow (py x key n).1:=by
 unfold py;split
 · have:=th (x:=x) key
   exact vN ⟨this.inn,m3 _,this.given⟩
 · exact .zero
instance {x:RowT}[OkRow x](key n to':Int):OkRow (l8 x key n to').1:=by
 unfold l8;split
 · have:=th (x:=x) key
   refine vN ?_;unfold wk;split
   · exact⟨this.inn,this.out,n7 (p:=wV) (fh (by assumption)) this.given (m3 _)⟩
   · exact this
 · exact .zero
theorem ve{x:RowT}(h:OkRow x){w v:Int}{l:Vector CellT 4}(hv:wV v)(hl: ∀(k:Nat) (h:k<4),CW l[k]):OkRow (od x w v l):=by
 unfold od;split
 · exact⟨h.version,h.cells,n7 (p:=wV) (fh (by assumption)) h.heir hv,λi k hi hk=>n7 (p:=λu:Vector CellT 4=>CW u[k]) (fh (by assumption)) (λj hj=>h.left j k hj hk) (hl k hk) i hi⟩
 · exact h
instance {x d:RowT}[h:OkRow x][g:OkRow d](who:Int):OkRow (dI x who d).1:=by
 have q: ∀k,OkRow (nT x who d k):=λk=>by
  induction k with
  |zero=>exact ve h (m3 _) g.cells
  |succ k ih=>
   have e:nT x who d (k+1)=m8 who d (nT x who d k) k:=by unfold nT;rw[cO,eM];rfl
   rw[e];unfold m8;split
   · exact ve ih (F1 _) (FS _)
   · exact ih
 unfold dI;split
 · exact .zero
 split
 · exact .zero
 · exact⟨m3 _,(q 5).cells,(q 5).heir,(q 5).left⟩
instance {s:MS δ}[h:OkR K s](l:List Int):OkRow (pH s l):=by
 have: ∀(l:List Int) (x:RowT),OkRow x→OkRow (l.foldl (λx i=>if 0<fK x i then x else(dI x i (nl s i)).1) x):=λl=>by
  induction l with
  |nil=>exact λx hx=>hx
  |cons i l ih=>exact λx hx=>ih _ (by dsimp only;split;exact hx;exact inferInstance)
 exact this l _ h.own
instance {s:MS δ}[h:OkR K s](o:OpT):OkRow (c8 s o).1:=by
 have:OkRow (gM (s.rep .nil) o).1:=by
  unfold gM
  repeat' split
  all_goals first|exact .zero|exact inferInstanceAs (OkRow (px s.own _ _).1)|exact inferInstanceAs (OkRow (py s.own _ _).1)|exact inferInstanceAs (OkRow (l8 s.own _ _ _).1)
 unfold c8 j6
 repeat' split
 all_goals first|exact .zero|exact this
theorem wi{l:List Int}{k:Nat}(h:k<l.length):(ints l)[k]?=some (.int .i64 (l.getD k 0)):=by simp[ints,h,List.getD_eq_getElem?_getD]
theorem oy(s:MS δ)(k:Nat):gN s (k+1)=gN s k++(if Bv s k then [((k:Nat):Int)]else []):=by
 unfold gN;rw[cO,List.filter_append,cQ]
 by_cases h:Bv s k=true<;>simp[h]
theorem vd(b:Int)(k:Nat):kI b (k+1)=kI b k++(if Gf b ((k:Nat):Int)then [((k:Nat):Int)]else []):=by
 unfold kI;rw[cO,List.filter_append,cQ]
 by_cases h:Gf b ((k:Nat):Int)=true<;>simp[h]
theorem sR(b:Int)(k:Nat):(kI b k).length≤k:=by
 unfold kI;rw[bU];exact xH (zV _ _) (by simp)
theorem td{v:ViewT}{w i:Int}(h:(jv v w).isSome=true)(g:(jv v w).getD 0=i):jv v w=some i:=by
 cases q:jv v w with
 |none=>rw[q]at h;cases h
 |some z=>rw[q]at g;rw[←g];rfl
theorem zA{s:MS δ}{k:Nat}(h:Bv s k=true):jv s.view ((k:Nat):Int)=some s.id∧fK s.own ((k:Nat):Int)≤0:=by
 unfold Bv at h;rw[av,decide_eq_true_iff,decide_eq_true_iff]at h;exact h
theorem KE{s:MS δ}{k:Nat}(h1:(jv s.view ((k:Nat):Int)).isSome=true)(h2:(jv s.view ((k:Nat):Int)).getD 0=s.id)(h3:fK s.own ((k:Nat):Int)≤0):Bv s k=true:=by
 unfold Bv;rw[av,decide_eq_true_iff,decide_eq_true_iff];refine⟨?_,h3⟩;cases q:jv s.view ((k:Nat):Int)with
 |none=>rw[q]at h1;cases h1
 |some z=>rw[q]at h2;rw[←h2];rfl
theorem F8(s:MS δ)(k:Nat):(gN s k).length≤k:=by
 unfold gN;rw[bU];exact xH (zV _ _) (by simp)
theorem Kz{x d:RowT}{who:Int}(h:cF who=true)(h2: ¬0<fK x who):(dI x who d).2=0:=by
 rw[dI,h,if_neg (by decide),if_neg h2]
theorem BH(K:Dk δ){l:List Int}{q:Nat}(h:q<l.length)(s:MS δ):fR K (l.take (q+1)) s=pN K (fR K (l.take q) s) (l.getD q 0):=by
 unfold fR;rw[co h,eM,List.getD_eq_getElem?_getD,List.getElem?_eq_getElem h];rfl
theorem tO(s:MS δ){l:List Int}{q:Nat}(h:q<l.length):pH s (l.take (q+1))=(if 0<fK (pH s (l.take q)) (l.getD q 0)then pH s (l.take q)else(dI (pH s (l.take q)) (l.getD q 0) (nl s (l.getD q 0))).1):=by
 unfold pH;rw[co h,eM,List.getD_eq_getElem?_getD,List.getElem?_eq_getElem h];rfl
theorem wu{s:MS δ}{i:Int}(h:i∈bB s):cF i=true∧jv s.view i=some s.id∧fK s.own i≤0:=by
 unfold bB gN at h;rw[eX]at h;obtain⟨k,hk,rfl⟩:=h;rw[List.mem_filter,eS]at hk;have h2:=hk.2;unfold Bv at h2;rw[av,decide_eq_true_iff,decide_eq_true_iff]at h2;exact⟨decide_eq_true ⟨by omega,by omega⟩,h2.1,h2.2⟩
theorem gk(x:RowT){k:Nat}(h:k<5):fK x ((k:Nat):Int)=x.heir[k]:=by
 rw[fK,dif_pos (show cF ((k:Nat):Int)=true from decide_eq_true ⟨by omega,by omega⟩)];rfl
theorem Gr(w:Int):(gE w).length≤1000000:=by unfold gE;split<;>simp
theorem El{k:Nat}(h:k<5):cF ((k:Nat):Int)=true:=decide_eq_true ⟨by omega,by omega⟩
theorem FT(x:RowT){k:Nat}(h:k<5):vY x ((k:Nat):Int)=x.left[k]:=by
 rw[vY,dif_pos (El h)];rfl
theorem Cr(x:RowT){k:Nat}(h:k<5)(v:Int)(l:Vector CellT 4):od x ((k:Nat):Int) v l= {x with heir:=x.heir.set k v h,left:=x.left.set k l h}:=by
 rw[od,dif_pos (El h)];rfl
theorem ou(x:RowT)(who:Int)(dead:RowT)(k:Nat):nT x who dead (k+1)=m8 who dead (nT x who dead k) k:=by unfold nT;rw[cO,eM];rfl
instance OkVw.first:OkVw firstV:=⟨Rng.first,λn hn=>by
 have h:n∈[(1:Int),7,0,0,0,0,0]:=hn;simp only[cn,List.not_mem_nil,or_false,or_self]at h
 rcases h with rfl|rfl|rfl<;>decide⟩
instance OkVw.zero:OkVw ViewT.zero:=⟨Rng.zero,λn hn=>by
 have h:n∈[(0:Int),0,0,0,0,0,0]:=hn;simp only[cn,List.not_mem_nil,or_false,or_self]at h
 rcases h with rfl;decide⟩
theorem Cf{v:ViewT}(h1:wV v.epoch)(h2:wV v.members)(hr:Rng v):WF v.flat:=λn hn=>by
 simp only[ViewT.flat,cn]at hn;rcases hn with rfl|rfl|hn
 · exact o7 h1
 · exact o7 h2
 · obtain⟨j,hj,rfl⟩:=rq hn
   have:=hr j hj;exact o7 ⟨by omega,by omega⟩
theorem rf(n:Int):wV (IntKind.i64.wrap n):=m3 n
instance OkVw.next{v:ViewT}[h:OkVw v](c:ChangeT):OkVw (dQ v c).1:=by
 unfold dQ;split
 · exact .zero
 split
 · split
   · exact .zero
   · exact⟨h.rng,Cf (rf _) (rf _) h.rng⟩
 split
 · split
   · exact .zero
   · have hr:Rng ⟨IntKind.i64.wrap (v.epoch+1),mh .i64 v.members (2^c.who.toNat),qM v c⟩:=λi hi=>by
      show 0≤(qM v c)[i]∧(qM v c)[i]≤5;unfold qM;rw[Vector.getElem_mapIdx];unfold s8;split
      · have hm:cF c.heir=true:=by
         rename_i q _ _ _ _;simp only[KM,Bool.not_eq_true',not_or,Bool.not_eq_false]at q;exact q.2
        have hm2:0≤c.heir∧c.heir<5:=of_decide_eq_true hm;omega
      · exact h.rng i hi
     exact⟨hr,Cf (rf _) (rf _) hr⟩
 · exact .zero
theorem HW{b:BallotT}(h1:wV b.round)(h2:wV b.who):WF b.flat:=λn hn=>by
 have h:n∈[b.round,b.who]:=hn;simp only[cn,List.not_mem_nil,or_false]at h;rcases h with rfl|rfl
 · exact o7 h1
 · exact o7 h2
theorem gC:WF BallotT.zero.flat:=HW (by decide) (by decide)
theorem oO:WF ChangeT.zero.flat:=λn hn=>by
 have h:n∈[(0:Int),0,0]:=hn;simp only[cn,List.not_mem_nil,or_false,or_self]at h;rcases h with rfl;decide
instance OkMg.sealed(w:Int)(y:RowT)[h:OkRow y]:OkMg (gL w y):=⟨h, .zero,gC,gC,oO⟩
instance OkMg.sealW(w:Int)(v:ViewT)[h:OkVw v]:OkMg (oe w v):=⟨.zero,h,gC,gC,oO⟩
section
variable {s:MS δ}
instance [h:OkR K s](l:List SaidT):OkR K (iC K s l):=⟨h.e,h.id,h.view,h.own,h.mir,h.book,h.last,h.acc,h.vote⟩
instance {p:Prop}[Decidable p]{a b:MS δ}[ha:OkR K a][hb:OkR K b]:OkR K (if p then a else b):=by split;exact ha;exact hb
instance {f:MS δ→MS δ}{t:Int}{m:MsgT}[h:OkR K s][hf:OkR K (f s)]:OkR K (m6 K f s t m):=by
 unfold m6;split
 · exact hf
 · exact⟨h.e,h.id,h.view,h.own,h.mir,h.book,h.last,h.acc,h.vote⟩
instance [h:OkR K s](t:Int)(m:MsgT):OkR K (Cv K s t m):=inferInstanceAs (OkR K (iC K s _))
instance [h:OkR K s](r:RecT):OkR K (ef K s r):=⟨K.sure _ _ h.e (Bu r),h.id,h.view,h.own,h.mir,h.book,h.last,h.acc,h.vote⟩
instance [h:OkR K s](a b c:Int):OkR K (dB s a b c):=⟨h.e,h.id,h.view,h.own,h.mir,h.book,h.last,h.acc,h.vote⟩
instance [h:OkR K s]:OkR K (bK s):=⟨h.e,h.id,h.view,h.own,h.mir,h.book,h.last,h.acc,h.vote⟩
instance [h:OkR K s](f:Int):OkR K (iB s f):=⟨h.e,h.id,h.view,h.own,h.mir,h.book,h.last,h.acc,h.vote⟩
instance [h:OkR K s]:OkR K (lW s):=⟨h.e,h.id,h.view,h.own,h.mir,h.book,h.last,h.acc,h.vote⟩
theorem x7{b:BookT}{w:Int}{x:RowT}(h: ∀(i:Nat) (h:i<5),OkRow b.rows[i])(hx:OkRow x): ∀(i:Nat) (h:i<5),OkRow (fu b w x).1.rows[i]:=by
 unfold fu;split
 · unfold zb
   split
   · exact n7 (p:=OkRow) (fh (by assumption)) h hx
   · exact h
 · exact h
instance OkR.merge[h:OkR K s](w:Int)(x:RowT)[hx:OkRow x]:OkR K (Ey s w x):=⟨h.e,h.id,h.view,h.own,h.mir,x7 h.book hx,h.last,h.acc,h.vote⟩
instance [h:OkR K s]:OkR K (gA s):=⟨h.e,h.id,h.view,h.own,h.mir,x7 h.book h.own,h.last,h.acc,h.vote⟩
theorem CV{b:MirT}{w:Int}{x:RowT}(h: ∀(i:Nat) (h:i<5),OkRow b.rows[i])(hx:OkRow x): ∀(i:Nat) (h:i<5),OkRow (ma b w x).1.rows[i]:=by
 unfold ma;split
 · unfold zq
   split
   · exact n7 (p:=OkRow) (fh (by assumption)) h hx
   · exact h
 · exact h
instance [h:OkR K s](w:Int)(x:RowT)[hx:OkRow x]:OkR K (iz s w x):=⟨h.e,h.id,h.view,h.own,CV h.mir hx,h.book,h.last,h.acc,h.vote⟩
instance [h:OkR K s](w:Int):OkR K (lN s w):=⟨h.e,h.id,h.view,h.own,λi hi=>by
 show OkRow (nR s.mirror w).rows[i]
 unfold nR;split<;>exact h.mir i hi,h.book,h.last,h.acc,h.vote⟩
instance [h:OkR K s](x:RowT)[hx:OkRow x](op:Int):OkR K (tP s x op):=⟨h.e,h.id,h.view,hx,h.mir,h.book,h.last,h.acc,h.vote⟩
instance [OkR K s]:OkR K (fj K s):=inferInstanceAs (OkR K (iC K s _))
instance [OkR K s](y:RowT):OkR K (mj K s y):=inferInstanceAs (OkR K (iC K s _))
instance [OkR K s](v:ViewT):OkR K (nC K s v):=inferInstanceAs (OkR K (iC K s _))
instance [OkR K s](m:MsgT):OkR K (jx K s m):=inferInstanceAs (OkR K (iC K s _))
instance [OkR K s](x:RowT)[OkRow x](op:Int):OkR K (eU K s x op).1:=by unfold eU;split<;>exact inferInstance
instance [h:OkR K s]:OkR K (mO K s):=by
 unfold mO;split
 · exact h
 split
 · exact inferInstance
 · exact h
instance [OkR K s]:OkR K (lx K s):=by unfold lx;exact inferInstance
instance [h:OkR K s](f:Int)(m:MsgT):OkR K (dF K s f m):=by
 unfold dF
 repeat' split
 all_goals exact inferInstance
instance [h:OkR K s](f:Int)(m:MsgT)[OkMg m]:OkR K (iM K s f m):=by
 unfold iM
 repeat' split
 all_goals exact inferInstance
theorem Is{v:Vector RowT 5}{w:Int}{x:RowT}(h: ∀(i:Nat) (h:i<5),OkRow v[i])(hx:OkRow x): ∀(i:Nat) (h:i<5),OkRow (AK v w x)[i]:=by
 unfold AK;split
 · exact n7 (p:=OkRow) (fh (by assumption)) h hx
 · exact h
instance [h:OkR K s](w:Int)(x:RowT)[hx:OkRow x]:OkR K (lv s w x):=⟨h.e,h.id,h.view,h.own,h.mir,h.book,by
 show ∀(i:Nat) (h:i<5),OkRow (if qu s w=0∨(nl s w).version<x.version then AK s.last w x else s.last)[i];split
 · exact Is h.last hx
 · exact h.last,h.acc,h.vote⟩
instance [OkR K s](f w:Int)(y:RowT)[OkRow y]:OkR K (uU s f w y):=by
 have h:OkR K (lv s w y):=inferInstance;exact⟨h.e,h.id,h.view,h.own,h.mir,h.book,h.last,h.acc,h.vote⟩
instance [h:OkR K s](f:Int)(m:MsgT)[OkMg m]:OkR K (fS K s f m):=by unfold fS;split<;>exact inferInstance
theorem vh[OkR K s]{f:MS δ→MS δ}(hf:OkR K (f s))(t:Int)(m:MsgT):OkR K (m6 K f s t m):=by unfold m6;split;exact hf;exact inferInstance
instance [h:OkR K s](f w:Int):OkR K (fq K s f w):=by
 unfold fq
 repeat' split
 · exact h
 · exact vh inferInstance _ _
 · exact inferInstance
 · exact vh inferInstance _ _
instance [h:OkR K s](i w:Int):OkR K (gO K s i w):=by
 unfold gO;split
 · exact h
 · exact vh inferInstance _ _
instance [OkR K s](i:Int):OkR K (pN K s i):=by unfold pN;exact inferInstance
theorem tg: ∀(l:List Int) (s:MS δ),OkR K s→OkR K (fR K l s)
 | [],_,h=>h
 |i::l,s,h=>tg l (pN K s i) inferInstance
instance [h:OkR K s]:OkR K (qT K s):=tg _ _ h
theorem MK(n:Int)(h:wV n):WF ({AccT.zero with epoch:=n}:AccT).flat:=λk hk=>by
 have q:k∈[n,0,0,0,0,0,0,0]:=hk;simp only[cn,List.not_mem_nil,or_false,or_self]at q;rcases q with rfl|rfl
 · exact o7 h
 · decide
instance [h:OkR K s](v:ViewT)[hv:OkVw v]:OkR K (mM s v):=⟨h.e,h.id,hv,h.own,h.mir,h.book,h.last,MK _ (Ad (hv.wf _ (by simp[ViewT.flat]))),λ_ e=>nomatch e⟩
instance [h:OkR K s](v:ViewT)[OkVw v]:OkR K (gY K s v):=by
 unfold gY
 repeat' split
 all_goals exact inferInstance
instance [h:OkR K s](f:Int)(m:MsgT)[OkMg m]:OkR K (ml K s f m):=by unfold ml;exact inferInstance
instance [h:OkR K s](c:ChangeT):OkR K (k8 K s c):=by
 unfold k8
 repeat' split
 all_goals exact inferInstance
class OkAc(a:AccT):Prop where wf:WF a.flat
instance [h:OkR K s]:OkAc s.acc:=⟨h.acc⟩
theorem ny{a b:List Int}(h:WF (a++b)):WF a:=λn hn=>h n (List.mem_append_left _ hn)
theorem sF{a b:List Int}(h:WF (a++b)):WF b:=λn hn=>h n (List.mem_append_right _ hn)
theorem OkAc.vow{a:AccT}(h:OkAc a):WF a.vow.flat:=sF (ny (ny h.wf))
theorem OkAc.had{a:AccT}(h:OkAc a):WF a.had.flat:=sF (ny h.wf)
theorem OkAc.change{a:AccT}(h:OkAc a):WF a.change.flat:=sF h.wf
theorem OkAc.epoch{a:AccT}(h:OkAc a):WF [a.epoch]:=ny (ny (ny h.wf))
theorem OkAc.ask{a:AccT}(h:OkAc a){ep:Int}{b:BallotT}(hb:WF b.flat):OkAc (bP a ep b).1:=by
 unfold bP;split
 · exact h
 · exact⟨lK (lK (lK h.epoch hb) h.had) h.change⟩
theorem OkAc.put{a:AccT}(h:OkAc a){ep:Int}{b:BallotT}{c:ChangeT}(hb:WF b.flat)(hc:WF c.flat):OkAc (gi a ep b c).1:=by
 unfold gi;split
 · exact h
 · exact⟨lK (lK (lK h.epoch hb) hb) hc⟩
instance [h:OkR K s](n:Int):OkR K (db s n):=⟨h.e,h.id,h.view,h.own,h.mir,h.book,h.last,h.acc,h.vote⟩
instance [h:OkR K s](v:VoteT)[hv:OkVt v]:OkR K (la s v):=⟨h.e,h.id,h.view,h.own,h.mir,h.book,h.last,h.acc,λ_ e=>dO e▸hv⟩
instance [h:OkR K s](a:AccT)[ha:OkAc a]:OkR K (wN s a):=⟨h.e,h.id,h.view,h.own,h.mir,h.book,h.last,ha.wf,h.vote⟩
instance {v:VoteT}[h:OkVt v]{m:MsgT}[hm:OkMg m](w:Int):OkVt (eI v w m.ballot m.had m.change).1:=by
 unfold eI;split
 · exact h
 · unfold uS
   split
   · exact⟨h.view,h.ballot,hm.change,hm.had⟩
   · exact⟨h.view,h.ballot,h.change,h.best⟩
instance {v:VoteT}[h:OkVt v](w:Int)(b:BallotT):OkVt (gh v w b).1:=by
 unfold gh;split
 · exact h
 · exact⟨h.view,h.ballot,h.change,h.best⟩
instance {m:MsgT}[hm:OkMg m][h:OkR K s](ep:Int):OkAc (bP s.acc ep m.ballot).1:=OkAc.ask ⟨h.acc⟩ hm.ballot
instance {m:MsgT}[hm:OkMg m][h:OkR K s](ep:Int):OkAc (gi s.acc ep m.ballot m.change).1:=OkAc.put ⟨h.acc⟩ hm.ballot hm.change
instance tookF_ok[h:OkR K s](f:Int)(m:MsgT):OkR K (lc K f m s):=by
 unfold lc;split
 · exact h
 · rename_i vt hv
   have:=h.vote vt hv;split<;>exact inferInstance
theorem rl[h:OkR K s]{f:MS δ→MS δ}(hf: ∀s:MS δ,OkR K s→OkR K (f s))(w:Int)(m:MsgT):OkR K (eJ K f s w m):=by
 unfold eJ
 repeat' split
 · exact inferInstance
 · exact h
 · exact h
 · exact hf _ inferInstance
instance [OkR K s](w:Int)(m:MsgT):OkR K (qz K s w m):=rl (λ_ _=>inferInstance) w m
instance [h:OkR K s](w:Int)(m:MsgT):OkR K (nK K w m s):=by unfold nK;exact inferInstance
instance [h:OkR K s](w:Int)(m:MsgT)[OkMg m]:OkR K (oI K w m s):=by
 unfold oI
 repeat' split
 all_goals exact inferInstance
instance [OkR K s](w:Int)(m:MsgT)[OkMg m]:OkR K (sM K s w m):=rl (λ_ _=>inferInstance) w m
instance OkMg.putM(ep:Int){vt:VoteT}[h:OkVt vt]:OkMg (iR ep vt.ballot vt.change):=⟨.zero, .zero,h.ballot,gC,h.change⟩
instance OkMg.askM(ep:Int){vt:VoteT}[h:OkVt vt]:OkMg (fw ep vt.ballot):=⟨.zero, .zero,h.ballot,gC,oO⟩
instance OkMg.takenM(ep:Int){m:MsgT}[h:OkMg m]:OkMg (jB ep m.ballot):=⟨.zero, .zero,h.ballot,gC,oO⟩
theorem OkMg.promM(ep:Int){m:MsgT}[h:OkMg m]{a:AccT}(ha:OkAc a):OkMg (kr ep m.ballot a.had a.change):=⟨.zero, .zero,h.ballot,ha.had,ha.change⟩
theorem tD[h:OkR K s]{f:MS δ→MsgT→MS δ}{m:MsgT}(hf: ∀s:MS δ,OkR K s→OkR K (f s m)):OkR K (jC K f s m):=by
 unfold jC;split
 · exact hf _ inferInstance
 · exact inferInstance
instance [h:OkR K s](vt:VoteT)[OkVt vt]:OkR K (ku K s vt):=tD λ_ _=>inferInstance
instance [h:OkR K s](f:Int)(m:MsgT)[OkMg m]:OkR K (pd K f m s):=by
 unfold pd;split
 · exact h
 · rename_i vt hv
   have:=h.vote vt hv;split<;>exact inferInstance
instance [OkR K s](w:Int)(m:MsgT)[OkMg m]:OkR K (qB K s w m):=rl (λ_ _=>inferInstance) w m
theorem wK[h:OkR K s](w:Int)(m:MsgT)[OkMg m]{a:AccT}(ha:OkAc a):OkR K (nX K w m a s):=by
 have:=OkMg.promM m.epoch (m:=m) ha;unfold nX;exact inferInstance
instance [h:OkR K s](w:Int)(m:MsgT)[OkMg m]:OkR K (pR K w m s):=by
 unfold pR
 repeat' split
 · exact h
 · exact inferInstance
 · exact wK w m inferInstance
 · exact wK w m inferInstance
instance [OkR K s](w:Int)(m:MsgT)[OkMg m]:OkR K (sN K s w m):=rl (λ_ _=>inferInstance) w m
instance [h:OkR K s](vt:VoteT)[OkVt vt]:OkR K (mF K s vt):=tD λ_ _=>inferInstance
instance [h:OkR K s](vt:VoteT)[OkVt vt]:OkR K (oJ K s vt):=by unfold oJ;split<;>exact inferInstance
theorem Cd{v:VoteT}{w:Int}{b had:BallotT}{c:ChangeT}(h:(eI v w b had c).2=true):(eI v w b had c).1.putting=true:=by
 unfold eI at h ⊢;split
 · rename_i q;rw[if_pos q]at h;cases h
 · rename_i q;rw[if_neg q]at h;exact h
theorem Gz(s:MS δ)[h:OkR K s]:WF (eD s).flat:=HW (m3 _) (by have:0≤s.id∧s.id<5:=of_decide_eq_true h.id;exact⟨by show _≤s.id;omega,by show s.id<_;omega⟩)
class OkCh(c:ChangeT):Prop where wf:WF c.flat
instance newVote_ok[h:OkR K s](c:ChangeT)[hc:OkCh c]:OkVt (jR s.view (eD s) c):=⟨h.view,Gz s,hc.wf,gC⟩
instance {vt:VoteT}[h:OkVt vt]:OkCh vt.change:=⟨h.change⟩
instance [h:OkR K s](c:ChangeT)[OkCh c]:OkR K (qW K s c):=by
 have:OkAc (bP s.acc s.view.epoch (eD s)).1:=OkAc.ask ⟨h.acc⟩ (Gz s);unfold qW;exact inferInstance
instance [h:OkR K s](c:ChangeT)[OkCh c]:OkR K (cz K s c).1:=by
 unfold cz
 repeat' split
 all_goals exact inferInstance
theorem qV{c:ChangeT}(h:(cz K s c).2=0):(cz K s c).1.vote=some (jR s.view (eD s) c):=by
 unfold cz at h ⊢
 by_cases h1:(bP s.acc s.view.epoch (eD s)).2=false
 · rw[if_pos h1]at h;cases h
 by_cases h2:rN K s (gJ s.view.epoch (eD s))≠0
 · rw[if_neg h1,if_pos h2]at h;exact absurd h h2
 · rw[if_neg h1,if_neg h2];rfl
instance [h:OkR K s](op:Int)(c:ChangeT)[OkCh c]:OkR K (eb K s op c).1:=by
 unfold eb
 repeat' split
 all_goals exact inferInstance
instance [h:OkR K s](o:OpT):OkR K (oE K s o).1:=by
 unfold oE
 repeat' split
 all_goals exact inferInstance
instance [h:OkR K s](o:OpT)[OkCh o.change]:OkR K (bY K s o).1:=by unfold bY;split<;>exact inferInstance
instance [h:OkR K s]:OkR K (bR K s):=by unfold bR;exact inferInstance
instance [h:OkR K s]:OkR K (bZ K s):=by unfold bZ;exact inferInstance
instance [h:OkR K s]:OkR K (fV K s):=by unfold fV;exact inferInstance
instance [h:OkR K s]:OkR K (rA K s):=by
 unfold rA;split
 · exact h
 · rename_i vt hv
   have:=h.vote vt hv
   repeat' split
   all_goals exact inferInstance
instance [h:OkR K s]:OkR K (iy K s):=by unfold iy;exact inferInstance
instance [h:OkR K s](f:Int)(m:MsgT)[OkMg m]:OkR K (gf K s f m):=by
 unfold gf
 repeat' split
 all_goals exact inferInstance
theorem io(s:MS δ)(c:ChangeT):(cz K s c).1.replies=s.replies:=by
 unfold cz;split
 · rfl
 · split<;>rfl
theorem jj(s:MS δ)(x:RowT)(op:Int):(eU K s x op).1.replies=s.replies:=by unfold eU;split<;>rfl
end
end Api
end

section
namespace Leg
open Go Codec Api Go.Conc
section
variable {P:Program} {w0:World} {F:Hl} {n:Nat} {ops:Array Oper} {Q:QQ} {is:List Nat} {D:List Deferred} {L:List (Nat×Value)} {H:List HP} {i d:Nat} {o:Oper}
theorem TX.recv1{x:Operand}{t e:TypeId}{dir:ChanDir}{c cap s r:Nat}{z v:Value}{vs vs0:List Value}(k:Nat)(ho:ops[i]?=some o)(hw:Want n D ops o L)(hop:o.op= .recv t x false)(hd:o.dst=some d)(hn:Nat.blt d n=true)(ht:P.underlying t=some (.chan dir e))(hz:(P.info? e).map (·.zero)=some (some z))
 (hx:cy L x=some (.chan (some c))) (hk:Nat.blt k H.length=true) (hH:H.getD k (λ_=>True)=dW c cap vs0 s r) (he:vs0=v::vs)
 (h:TX P w0 F n ops Q is D ((d,v)::L) (H.set k (dW c cap vs s (r+1)))):TX P w0 F n ops Q (i::is) D L H:=λa w f sm m=>by
 subst he;have hc:=m.chan k hk hH
 have hr:(execOp a.eval o).run P w= .ok (.comm #[{chan:= .chan (some c),send:=none,zero:=z}] true (.recv false)) w:=by
  simp[execOp,hop,f.eval hx,Sem.run_bind,run_underlying ht,nI hz]
 refine KS (v:=v) (w2:=w.setChan c cap vs.toArray false s (r+1) false) ho (hw a f) hr (λfr cs es hs=>?_) ?_
 · have:=step_lone_recv_buf false hs hc (by simp)
   rw[this];simp[got]
 · rw[hd]
   exact h _ _ (f.put (lb hn) _) (sm.setChan ..) (m.setChan k hk hH)
theorem TX.send1{x y:Operand}{c cap s r:Nat}{v:Value}{vs:List Value}(k:Nat)(ho:ops[i]?=some o)(hw:Want n D ops o L)(hop:o.op= .send x y)(hd:o.dst=none)
 (hx:cy L x=some (.chan (some c))) (hy:cy L y=some v) (hk:Nat.blt k H.length=true) (hH:H.getD k (λ_=>True)=dW c cap vs s r) (hroom:vs.length<cap)
 (h:TX P w0 F n ops Q is D L (H.set k (dW c cap (vs++[v]) (s+1) r))):TX P w0 F n ops Q (i::is) D L H:=λa w f sm m=>by
 have hc:=m.chan k hk hH
 have hr:(execOp a.eval o).run P w= .ok (.comm #[{chan:= .chan (some c),send:=some v,zero:= .tuple #[]}] true .send) w:=by
  simp[execOp,hop,f.eval hx,f.eval hy,Sem.run]
 refine KS (v:=undef) (w2:=w.setChan c cap (vs++[v]).toArray false (s+1) r false) ho (hw a f) hr (λfr cs es hs=>?_) ?_
 · have:=step_lone_send_room hs hc (by simpa using hroom)
   rw[this];simp
 · rw[hd]
   exact h _ _ f (sm.setChan ..) (m.setChan k hk hH)
end
def Bl(k:Nat)(u:Value):Value:=if k=0 then .slice none 0 0 else u
theorem GQ{α:Type}{l:List α}{k:Nat}(h:k<l.length):l.drop k++l.take k=l[k]::(l.drop (k+1)++l.take k):=by rw[di h];rfl
theorem AV{α:Type}{l:List α}{k:Nat}(h:k<l.length):(l.drop (k+1)++l.take k)++[l[k]]=l.drop (k+1)++l.take (k+1):=by rw[be,co h]
end Leg
namespace Leg
open Go
theorem HA{us:List Value}{k:Nat}(h:k=0)(hk:k<us.length):us[k]=Bl (k+1) (us.getD 0 undef):=by
 subst h;unfold Bl;rw[if_neg (by omega)];simp[List.getD_eq_getElem?_getD,hk]
theorem Hy{u:Value}{k:Nat}(h: ¬k=0):Bl k u=Bl (k+1) u:=by unfold Bl;rw[if_neg h,if_neg (by omega)]
theorem Hz{u:Value}{k:Nat}(h: ¬k=0):Bl k u=u:=if_neg h
end Leg
namespace Leg
open Go
def ry{α:Type}:List α→List α
 | []=>[]
 |a::l=>l++[a]
def Gy{α:Type}(l:List α):Bool:=decide (l.length≠0∧l.length≠8)
def Cg{α:Type}[Inhabited α](l:List α):List α:=if l.length≠0∧l.length≠8 then l++[l.getD 0 default]else l
end Leg
namespace Leg
open Go
def kP{α:Type}:Nat→List α→List α
 |0,l=>l
 |n+1,l=>ry (kP n l)
theorem EO{α:Type}(l:List α):(ry l).length=l.length:=by cases l<;>simp[ry]
theorem jU{α:Type}: ∀(n:Nat) (l:List α),(kP n l).length=l.length
 |0,_=>rfl
 |n+1,l=>by rw[kP,EO,jU n l]
theorem EM{α:Type}{l:List α}{x:α}:x∈ry l↔x∈l:=by
 cases l with
 |nil=>rfl
 |cons a l=>simp[ry,or_comm]
theorem n8{α:Type}{x:α}: ∀(n:Nat) (l:List α),x∈kP n l↔x∈l
 |0,_=>Iff.rfl
 |n+1,l=>by rw[kP,EM,n8 n l]
theorem xP{α β:Type}(f:α→β)(l:List α):ry (l.map f)=(ry l).map f:=by cases l<;>simp[ry]
theorem Ip{α β:Type}[Inhabited α][Inhabited β](f:α→β)(l:List α):Cg (l.map f)=(Cg l).map f:=by
 unfold Cg;rw[bU];split
 · rename_i h
   cases l with
   |nil=>exact absurd rfl h.1
   |cons a l=>simp
 · rfl
theorem Iq{α β:Type}(f:α→β)(l:List α):Gy (l.map f)=Gy l:=by unfold Gy;rw[bU]
end Leg
end

section
namespace Api
open Go Leg Codec Dsk Wal
instance :Inhabited MsgT:=⟨.zero⟩
structure LD where
 cnt:Nat
 used:Int
 D:DS
structure DkOk(D:DS):Prop where
 ok:D.Ok
 inn:Wal.DS.In D
 ws:D.ws.length≤2048
 up:D.dn=false→D.ws=[]
def Wrote(D:DS)(n:Nat)(r:Int×DS):Prop:=r.2.Ok∧Wal.DS.In r.2∧((D.dn=true∧r.2=D)∨(D.dn=false∧r.2.ws.length≤D.ws.length+n∧(r.1=0→r.2.dn=false)∧(r.1≠0→r.2.dn=true)))
theorem Wrote.none{D:DS}(h:D.Ok)(hi:Wal.DS.In D):Wrote D 0 (0,D):=⟨h,hi,by
 cases hd:D.dn
 · exact .inr ⟨rfl,aK _,λ_=>by first|exact hd|rfl,λq=>absurd rfl q⟩
 · exact .inl ⟨rfl,rfl⟩⟩
theorem Wrote.more{D:DS}{n m:Nat}{r:Int×DS}(h:Wrote D n r)(hm:n≤m):Wrote D m r:=⟨h.1,h.2.1,h.2.2.imp id λ⟨a,b,c⟩=>⟨a,by omega,c⟩⟩
theorem Wrote.one{D:DS}(h:D.Ok)(hi:Wal.DS.In D){at':Int}{bs:List UInt8}(h1:0≤at'∧at'<2048)(h2:bs.length≤64):Wrote D 1 (D.write at' bs):=by
 cases hd:D.dn
 · by_cases hc:D.ar=true∧D.lf=0
   · rw[Cb h1 h2 hc]
     exact⟨⟨h.s,h.ws,h.lf⟩,hi, .inr ⟨hd,Nat.le_succ _,(λq=>absurd q (by show ¬(4:Int)=0;decide)),λ_=>rfl⟩⟩
   · have h4:D.ar=false∨0<D.lf:=by
      have:=h.lf;cases q:D.ar
      · exact .inl rfl
      · right
        have:D.lf≠0:=λe=>hc ⟨q,e⟩
        omega
     rw[qq h1 h2 hd h4];exact⟨D6 h h2 h4,D7 hi h1, .inr ⟨hd,by simp[zc],λ_=>rfl,λq=>absurd rfl q⟩⟩
 · have e:D.write at' bs=(4,D):=by
    rw[DS.write,if_neg (by omega),if_pos (.inl hd)];cases D;simp only at hd;rw[hd]
   rw[e];exact⟨h,hi, .inl ⟨hd,rfl⟩⟩
theorem Wrote.then{D:DS}{n m:Nat}{r q:Int×DS}(h:Wrote D n r)(h0:r.1=0)(g:Wrote r.2 m q):Wrote D (n+m) q:=by
 obtain⟨_,_,h⟩:=h;refine⟨g.1,g.2.1,?_⟩;rcases h with⟨hd,e⟩| ⟨hd,hl,hz,_⟩
 · rw[e]at g
   rcases g.2.2 with⟨_,e2⟩| ⟨hd2,_⟩
   · exact .inl ⟨hd,e2⟩
   · rw[hd]at hd2;cases hd2
 · rcases g.2.2 with⟨hd2,_⟩| ⟨_,hl2,h3⟩
   · rw[hz h0]at hd2;cases hd2
   · exact .inr ⟨hd,by omega,h3⟩
theorem Wrote.writes: ∀(ss:List jK) (at':Int) (D:DS),D.Ok→Wal.DS.In D→0≤at'→at'+ss.length≤2048→(∀s∈ss,s.length=64)→Wrote D ss.length (gG ss at' D)
 | [],_,D,h,hi,_,_,_=>Wrote.none h hi
 |s::ss,at',D,h,hi,h0,h1,hs=>by
  simp only[ax]at h1;have h2:=hs s (by simp);have o:=Wrote.one h hi (at':=at') (bs:=s) (by omega) (by omega);rw[gG];split
  · rename_i hz
    have:=o.then hz (Wrote.writes ss (at'+1) _ o.1 o.2.1 (by omega) (by omega) λx hx=>hs x (by simp[hx]))
    rwa [lU]at this
  · exact o.more (by simp)
theorem Wrote.wipes: ∀(n:Nat) (at':Int) (D:DS),D.Ok→Wal.DS.In D→0≤at'→at'+n≤2048→Wrote D n (jo n at' D)
 |0,_,D,h,hi,_,_=>Wrote.none h hi
 |n+1,at',D,h,hi,h0,h1=>by
  rw[jo];split
  · exact(Wrote.wipes n (at'+1) D h hi (by omega) (by omega)).more (by omega)
  · have o:=Wrote.one h hi (at':=at') (bs:=[]) (by omega) (by simp)
    split
    · rename_i hz
      have:=o.then hz (Wrote.wipes n (at'+1) _ o.1 o.2.1 (by omega) (by omega))
      rwa [lU]at this
    · exact o.more (by omega)
theorem DkOk.wrote{D:DS}(h:DkOk D){n:Nat}{r:Int×DS}(g:Wrote D n r)(hn:n≤2048):(r.1≠0→DkOk r.2)∧DkOk r.2.sync.2:=by
 obtain⟨ho,hi,hr⟩:=g;rcases hr with⟨hd,e⟩| ⟨hd,hl,h0,h1⟩
 · rw[e]
   refine⟨λ_=>h,?_⟩;rw[DS.sync,if_pos hd];exact h
 · rw[h.up hd]at hl
   simp only[aC,bk]at hl;refine⟨λq=>⟨ho,hi,by omega,λz=>by rw[h1 q]at z;cases z⟩,?_⟩
   by_cases q:r.1=0
   · obtain⟨_,s2,_⟩:=sP (h0 q)
     exact⟨DS.sync_ok ho,DW hi,by rw[s2];exact aN _,λ_=>s2⟩
   · rw[DS.sync,if_pos (h1 q)]
     exact⟨ho,hi,by show r.2.ws.length≤2048;omega,λz=>by rw[show r.2.dn=true from h1 q]at z;cases z⟩
theorem vm{D:DS}(hI:Wal.DS.In D)(hD:D.Ok): ∀(f:Nat) (cnt used:Int),0≤used→used≤2048→0≤(fN D.read f cnt used).2∧(fN D.read f cnt used).2≤2048∧(fN D.read f cnt used).1.length≤f
 |0,_,_,h0,h1=>⟨h0,h1,aK _⟩
 |f+1,cnt,used,h0,h1=>by
  rw[fN];split
  · exact⟨h0,h1,aN _⟩
  · rename_i b all h
    have h2:=oc hI hD h0 h;have h3:=(kW (lI hD _) h).1;obtain⟨a,b',c⟩:=vm hI hD f (cnt+1) (used+all) (by omega) h2;exact⟨a,b',by simp only[ax];omega⟩
theorem DkOk.open{D:DS}(h:DkOk D):DkOk (bJ D).D∧0≤(bJ D).used∧(bJ D).used≤2048∧(bJ D).recs.length≤2049:=by
 obtain⟨a,b,c⟩:=vm h.inn h.ok iX 0 0 (by omega) (by omega);rw[r9]at c;have w:=h.wrote (Wrote.wipes (2048- (fN D.read iX 0 0).2).toNat _ D h.ok h.inn a (by omega)) (by omega);unfold bJ;simp only;split
 · rename_i q;exact⟨w.1 q,by show(0:Int)≤0;omega,by show(0:Int)≤2048;omega,aN _⟩
 · split
   · exact⟨w.2,by show(0:Int)≤0;omega,by show(0:Int)≤2048;omega,aN _⟩
   · exact⟨w.2,a,b,by rw[←r9]at c;exact c⟩
theorem DkOk.arm{D:DS}(h:DkOk D)(n:Int)(hn:n≤9223372036854775807):DkOk (D.arm n):=⟨⟨h.ok.s,h.ok.ws,by show 0≤max n 0∧max n 0≤9223372036854775807;omega⟩,h.inn,h.ws,h.up⟩
theorem DkOk.crash{D:DS}(h:DkOk D)(mask torn cut:Int):DkOk (D.crash mask torn cut):=by
 have c:=Calm.crash h.ok h.inn mask torn cut;exact⟨c.ok,c.inn,aN _,λ_=>rfl⟩
theorem DkOk.new:DkOk .new:=⟨⟨mi,mi,by simp[DS.new],by simp[DS.new]⟩,⟨Oi,Oi⟩,aN _,λ_=>rfl⟩
structure LD.Ok(e:LD):Prop where
 dk:DkOk e.D
 used:0≤e.used∧e.used≤2048
 cnt:(e.cnt:Int)≤4100+e.used
def LD.put(e:LD)(bs:List UInt8):LD×Int:=(⟨(oi e.D e.cnt e.used bs).cnt,(oi e.D e.cnt e.used bs).used,(oi e.D e.cnt e.used bs).D⟩,(oi e.D e.cnt e.used bs).err)
theorem LD.put_ok(e:LD)(bs:List UInt8)(h:e.Ok)(hb:bs.length≤3000):(e.put bs).1.Ok:=by
 obtain⟨⟨ho,hi,hw,hu⟩,h1,h2⟩:=h;unfold LD.put oi;rw[if_neg (by omega)]
 by_cases hf:(bq bs.length:Int)>2048-e.used
 · rw[if_pos hf];exact⟨⟨ho,hi,hw,hu⟩,h1,h2⟩
 rw[if_neg hf];have hp:0<bq bs.length:=pB _;have hl:(cf ((e.cnt+1:Nat):Int) bs).length=bq bs.length:=eu _ _;have w:=DkOk.wrote ⟨ho,hi,hw,hu⟩ (Wrote.writes (cf ((e.cnt+1:Nat):Int) bs) e.used e.D ho hi h1.1 (by omega) (y1 _ _)) (by omega);simp only;split
 · rename_i q;exact⟨w.1 q,h1,h2⟩
 · split
   · exact⟨w.2,h1,h2⟩
   · exact⟨w.2,(by show 0≤e.used+(bq bs.length:Int)∧e.used+(bq bs.length:Int)≤2048;omega),by show((e.cnt+1:Nat):Int)≤4100+(e.used+bq bs.length);omega⟩
def KD:Dk LD:=⟨LD.put,λe=>e.D.dn,LD.Ok,LD.put_ok⟩
structure Slot where
 run:Option (MS LD)
 D:DS
 past:List ReplyT
structure CL where
 ms:List Slot
 W:List (List MsgT)
def Slot.nil:Slot:=⟨none, .new,[]⟩
def CL.at'(a:CL)(i:Nat):Slot:=a.ms.getD i .nil
def Slot.dk(x:Slot):DS:=match x.run with
 |some s=>s.e.D
 |none=>x.D
def Slot.reps(x:Slot):List ReplyT:=x.past++(match x.run with
 |some s=>s.replies
 |none=>[])
def Slot.up(x:Slot):Bool:=match x.run with
 |some s=> !s.e.D.dn
 |none=>false
def CL.set(a:CL)(i:Nat)(x:Slot):CL:= {a with ms:=a.ms.set i x}
def rM(W:List (List MsgT))(f:Nat)(s:SaidT):List (List MsgT):=if dA ((f:Nat):Int) s.to' then W.set (bA ((f:Nat):Int) s.to') (if(W.getD (bA ((f:Nat):Int) s.to') []).length<8 then W.getD (bA ((f:Nat):Int) s.to') []++[s.msg]else W.getD (bA ((f:Nat):Int) s.to') [])else W
def gK(W:List (List MsgT))(f:Nat)(l:List SaidT):List (List MsgT):=l.foldl (λW s=>rM W f s) W
def MS.hush{δ:Type}(s:MS δ):MS δ:= {s with o:=[]}
def CL.did(a:CL)(i:Nat)(s:MS LD):CL:=⟨a.ms.set i {a.at' i with run:=some s.hush},gK a.W i s.o⟩
def MS.dsk(s:MS LD)(D:DS):MS LD:= {s with e:= {s.e with D:=D}}
def xt(x:Slot)(n:Int):Slot:=match x.run with
 |some s=> {x with run:=some (s.dsk (s.e.D.arm n))}
 |none=> {x with D:=x.D.arm n}
def nr(x:Slot)(mask torn cut:Int):Slot:=⟨none,x.dk.crash mask torn cut,x.reps⟩
def cW(i:Nat)(D:DS):Option (MS LD)×Int:=
 if(bJ D).err≠0 then(none,(bJ D).err)
 else match lj (bJ D).recs (A6 ((i:Nat):Int) (⟨(bJ D).recs.length,(bJ D).used,(bJ D).D⟩:LD))with
  |none=>(none,1)
  |some s=>(some s,0)
def jV(i:Nat)(x:Slot):Slot×Int:=match x.run with
 |some _=>(x,5)
 |none=>({x with run:=(cW i x.D).1,D:=(bJ x.D).D},(cW i x.D).2)
def wA(a:CL)(f t:Nat)(m:MsgT):CL×Int:=match(a.at' t).run with
 |none=>(a,0)
 |some s=>if s.e.D.dn then(a,0)else if(jy (dU m)).2=0 then(a.did t (gf KD s ((f:Nat):Int) (jy (dU m)).1),0)else(a,(jy (dU m)).2)
def CL.way(a:CL)(k:Nat)(l:List MsgT):CL:= {a with W:=a.W.set k l}
def o9(a:CL)(o:OpT):CL×Int:=
 if dA o.at' o.to'=false then(a,5)
 else match a.W.getD (bA o.at' o.to') []with
  | []=>(a,10)
  |m::l=>
   if o.kind=7 then(if Gy (m::l)then(a.way (bA o.at' o.to') (Cg (m::l)),0)else(a,3))
   else match kP (max o.n 0% ((m::l).length:Int)).toNat (m::l)with
    | []=>(a,0)
    |m::l=>if o.kind=6 then(a.way (bA o.at' o.to') l,0)else wA (a.way (bA o.at' o.to') l) o.at'.toNat o.to'.toNat m
def Gb(a:CL)(i:Nat)(o:OpT):CL×Int:=match(a.at' i).run with
 |none=>(a,4)
 |some s=>if s.e.D.dn then(a,4)else(a.did i (bY KD s o).1,(bY KD s o).2)
def EQ(a:CL)(i:Nat):CL×Int:=match(a.at' i).run with
 |none=>(a,4)
 |some s=>if s.e.D.dn then(a,4)else(a.did i (iy KD s),0)
def B5(a:CL)(o:OpT):CL×Int:=
 if iA o.at'=false then(a,5)
 else if 0≤o.kind∧o.kind≤4 then Gb a o.at'.toNat o
 else if o.kind=5∨o.kind=6∨o.kind=7 then o9 a o
 else if o.kind=8 then EQ a o.at'.toNat
 else if o.kind=9 then(a.set o.at'.toNat (xt (a.at' o.at'.toNat) o.n),0)
 else if o.kind=10 then(a.set o.at'.toNat (nr (a.at' o.at'.toNat) o.mask o.torn o.cut),0)
 else if o.kind=11 then(a.set o.at'.toNat (jV o.at'.toNat (a.at' o.at'.toNat)).1,(jV o.at'.toNat (a.at' o.at'.toNat)).2)
 else(a,5)
def gn(a:CL)(l:List OpT):CL:=l.foldl (λa o=>(B5 a o).1) a
def rR(i:Nat):Slot:=(jV i .nil).1
def CL.new:CL:=⟨(List.range 5).map rR,List.replicate 25 []⟩
structure Fresh{δ:Type}(i:Int)(e:δ)(s:MS δ):Prop where
 id:s.id=i
 vote:s.vote=none
 replies:s.replies=[]
 e:s.e=e
 o:s.o=[]
 waits:s.waits=0
 ops:s.ops=0
theorem Fresh.rest{δ:Type}{i:Int}{e:δ}{s:MS δ}(h:Fresh i e s)(m:RecT):Fresh i e (js s m):=by
 obtain⟨h1,h2,h3,h4,h5,h6,h7⟩:=h;unfold js
 repeat' split
 all_goals exact⟨h1,by first|exact h2|rfl,h3,h4,h5,h6,h7⟩
theorem Fresh.new{δ:Type}(i:Int)(e:δ):Fresh i e (A6 i e):=⟨rfl,rfl,rfl,rfl,rfl,rfl,rfl⟩
theorem Fresh.read{δ:Type}{i:Int}{e:δ}: ∀(l:List (List UInt8)) {s s':MS δ},Fresh i e s→lj l s=some s'→Fresh i e s'
 | [],s,s',h,q=>by
  obtain rfl:=dO q;exact h
 |b::l,s,s',h,q=>by
  rw[lj]at q;split at q
  · cases q
  · exact Fresh.read l (h.rest _) q
theorem tt{i:Nat}{D:DS}{s:MS LD}(h:(cW i D).1=some s):(bJ D).err=0∧lj (bJ D).recs (A6 ((i:Nat):Int) (⟨(bJ D).recs.length,(bJ D).used,(bJ D).D⟩:LD))=some s:=by
 unfold cW at h;split at h
 · cases h
 · rename_i h0
   refine⟨Decidable.not_not.1 h0,?_⟩;split at h
   · cases h
   · rename_i h2;rw[h2];exact h
theorem yL{v:ViewT}{bs r:List UInt8}(h:mu bs=some (v,r)):OkVw v:=by
 obtain⟨⟨h1,h2,_⟩,_⟩:=sJ h;have hr:=rm h;exact⟨hr,Cf ⟨by omega,by omega⟩ ⟨by omega,by omega⟩ hr⟩
theorem p8{b:BallotT}{bs r:List UInt8}(h:jS bs=some (b,r)):WF b.flat:=by
 obtain⟨⟨h1,h2⟩,_⟩:=pQ h;exact OkB.wf ⟨h1,h2⟩
theorem Dy{c:ChangeT}{bs r:List UInt8}(h:k9 bs=some (c,r)):WF c.flat:=by
 obtain⟨⟨h1,h2,h3⟩,_⟩:=tT h;exact OkC.wf ⟨h1,h2,h3⟩
theorem Cx{x:RowT}{bs r:List UInt8}(h:ub bs=some (x,r)):OkRow x:=OkRow.of (y3 h)
theorem Kw{m:MsgT}{g:Bool}{bs r:List UInt8}(h:cI bs=some ((m,g),r)):OkMg m:=by
 obtain⟨k,r1,_,h⟩:=bD h
 have fin: ∀{m':MsgT} {g':Bool} {b r:List UInt8},pr (m',g') b=some ((m,g),r)→OkMg m'→OkMg m:=λh q=>by
  obtain⟨e,_⟩:=gW h;injection e with e1 e2
  exact e1▸q
 split at h
 · obtain⟨_,_,_,h⟩:=bD h;obtain⟨x,_,hx,h⟩:=bD h;exact fin h ⟨Cx hx, .zero,gC,gC,oO⟩
 split at h
 · obtain⟨_,_,_,h⟩:=bD h;exact fin h ⟨.zero, .zero,gC,gC,oO⟩
 split at h
 · obtain⟨_,_,_,h⟩:=bD h;obtain⟨b,_,hb,h⟩:=bD h;exact fin h ⟨.zero, .zero,p8 hb,gC,oO⟩
 split at h
 · obtain⟨_,_,_,h⟩:=bD h;obtain⟨b,_,hb,h⟩:=bD h;obtain⟨d,_,hd,h⟩:=bD h;obtain⟨c,_,hc,h⟩:=bD h;exact fin h ⟨.zero, .zero,p8 hb,p8 hd,Dy hc⟩
 split at h
 · obtain⟨_,_,_,h⟩:=bD h;obtain⟨b,_,hb,h⟩:=bD h;obtain⟨c,_,hc,h⟩:=bD h;exact fin h ⟨.zero, .zero,p8 hb,gC,Dy hc⟩
 split at h
 · obtain⟨v,_,hv,h⟩:=bD h;exact fin h ⟨.zero,yL hv,gC,gC,oO⟩
 split at h
 · obtain⟨_,_,_,h⟩:=bD h;obtain⟨v,_,hv,h⟩:=bD h;exact fin h ⟨.zero,yL hv,gC,gC,oO⟩
 · exact fin h ⟨.zero, .zero,gC,gC,oO⟩
class OkRd(m:RecT):Prop where
 row:OkRow m.row
 view:OkVw m.view
 ballot:WF m.ballot.flat
 change:WF m.change.flat
theorem Ke{m:RecT}{g:Bool}{bs r:List UInt8}(h:dd bs=some ((m,g),r)):OkRd m:=by
 obtain⟨k,r1,_,h⟩:=bD h
 have fin: ∀{m':RecT} {g':Bool} {b r:List UInt8},pr (m',g') b=some ((m,g),r)→OkRd m'→OkRd m:=λh q=>by
  obtain⟨e,_⟩:=gW h;injection e with e1 e2
  exact e1▸q
 split at h
 · obtain⟨x,_,hx,h⟩:=bD h;exact fin h ⟨Cx hx, .zero,gC,oO⟩
 split at h
 · obtain⟨_,_,_,h⟩:=bD h;obtain⟨x,_,hx,h⟩:=bD h;exact fin h ⟨Cx hx, .zero,gC,oO⟩
 split at h
 · obtain⟨_,_,_,h⟩:=bD h;exact fin h ⟨.zero, .zero,gC,oO⟩
 split at h
 · obtain⟨_,_,_,h⟩:=bD h;obtain⟨b,_,hb,h⟩:=bD h;exact fin h ⟨.zero, .zero,p8 hb,oO⟩
 split at h
 · obtain⟨_,_,_,h⟩:=bD h;obtain⟨b,_,hb,h⟩:=bD h;obtain⟨c,_,hc,h⟩:=bD h;exact fin h ⟨.zero, .zero,p8 hb,Dy hc⟩
 split at h
 · obtain⟨v,_,hv,h⟩:=bD h;exact fin h ⟨.zero,yL hv,gC,oO⟩
 · exact fin h ⟨.zero, .zero,gC,oO⟩
theorem Eu(bs:List UInt8):OkMg (jy bs).1:=by
 unfold jy;split
 · rename_i m h;exact Kw h
 · exact⟨.zero, .zero,gC,gC,oO⟩
theorem I0(bs:List UInt8):OkRd (nq bs).1:=by
 unfold nq;split
 · rename_i m h;exact Ke h
 · exact⟨.zero, .zero,gC,oO⟩
section
variable {δ:Type} {K:Dk δ} {s:MS δ}
theorem Ix(h:OkR K s)(m:RecT)(hm:OkRd m):OkR K (js s m):=by
 have ha:OkAc s.acc:=⟨h.acc⟩;unfold js;split
 · exact⟨h.e,h.id,h.view,hm.row,h.mir,h.book,h.last,h.acc,h.vote⟩
 split
 · have:=hm.row;exact inferInstance
 split
 · exact inferInstance
 split
 · exact⟨h.e,h.id,h.view,h.own,h.mir,h.book,h.last,lK (lK (lK ha.epoch hm.ballot) ha.had) ha.change,h.vote⟩
 split
 · exact⟨h.e,h.id,h.view,h.own,h.mir,h.book,h.last,lK (lK (lK ha.epoch hm.ballot) hm.ballot) hm.change,h.vote⟩
 split
 · have:=hm.view;exact inferInstance
 · exact h
theorem yM{v:Vector RowT 5}(h:v= #v[.zero, .zero, .zero, .zero, .zero])(i:Nat)(hi:i<5):OkRow v[i]:=by
 subst h
 match i,hi with
 |0,_|1,_|2,_|3,_|4,_=>exact OkRow.zero
theorem IL{i:Int}{e:δ}(he:K.ok e)(hi:cF i=true):OkR K (A6 i e):=
 ⟨he,hi, .first, .zero,yM rfl,yM rfl,yM rfl,MK _ (by decide),λ_ q=>nomatch q⟩
theorem AY: ∀(l:List (List UInt8)) {s s':MS δ},OkR K s→lj l s=some s'→OkR K s'
 | [],s,s',h,q=>by
  obtain rfl:=dO q;exact h
 |b::l,s,s',h,q=>by
  rw[lj]at q;split at q
  · cases q
  · exact AY l (Ix h _ (I0 b)) q
theorem sQ{i:Nat}(hi:i<5){D:DS}(hD:DkOk D){s:MS LD}(h:(cW i D).1=some s):OkR KD s∧Fresh ((i:Nat):Int) (⟨(bJ D).recs.length,(bJ D).used,(bJ D).D⟩:LD) s:=by
 obtain⟨_,h2⟩:=tt h;obtain⟨o1,o2,o3,o4⟩:=hD.open;exact⟨AY _ (IL (K:=KD) ⟨o1,⟨o2,o3⟩,by show(((bJ D).recs.length:Nat):Int)≤4100+(bJ D).used;omega⟩ (decide_eq_true ⟨by omega,by omega⟩)) h2,Fresh.read _ (Fresh.new _ _) h2⟩
end
end Api
end

section
namespace Go.Proofs.YtjblgopghhgflaaGreat
open Go Leg Codec Api Dsk Wal
theorem zO(b c s r:Nat)(us:List Value)(x:Value)(bs:List UInt8)(hb:bs.length≤1000000)(hroom:us.length<8):
 DT 138 #[(.pointer (some ⟨b,0,none⟩)),x] (IsW x bs) [ag b [(.chan (some c))] 208,dW c 8 (us) (s) (r)] (c9 (λv H=>v= .bool true∧∃u,H=[ag b [(.chan (some c))] 208,dW c 8 (us++[u]) (s+1) r,dK u bs 5])):=by
 refine Leg.Does.body (vs:=[(.pointer (some ⟨b,0,none⟩)),x]) (n:=15) Tryz.func138 rfl rfl rfl (λw0 F hF=>?_);refine sr λ_ J1=>?_
 refine oW ?_;refine nx J1 ?_;refine ab λ_ J2=>?_
 refine sr λ_ J3=>?_
 refine mv ?_;refine tp (fT rfl rfl) ?_;refine tp (aV (r:=0) rfl BU rfl tn rfl rfl) ?_;refine tp (e7 (v:=(.chan (some c))) rfl ul rfl rfl (dG 0 rfl rfl) rfl) ?_;refine nx J3 ?_;refine ad ?_;refine BX (aa rfl) rfl rfl rfl gq kV (λv9=>?_);change TL _ _ _ _ _ _ _ _ _ [dK v9 ([]) 5,ag b [(.chan (some c))] 208,dW c 8 (us) (s) (r)];refine mv ?_;refine cE (k:=0) (news:=dY (bs)) (nn':=(bs:List UInt8).length) (xs':=dY (bs)) (aa rfl) rfl rfl rfl gq yl rfl rfl rfl rfl rfl rfl (λ_ _=>hF.src (λ_ h=>dT h)) (eN _) (by simp only[maxLen,aC];omega) (by simp only[aC];omega) (by simp) (cb _) (λv11 ov11=>?_);change TL _ _ _ _ _ _ _ _ _ [dK v11 (bs) 5,ag b [(.chan (some c))] 208,dW c 8 (us) (s) (r)];refine nx J2 ?_;refine ab λ_ J4=>?_
 refine xy ?_;change TX _ _ _ _ _ _ [0,1,2] _ _ _;refine TX.sendRoom 2 rfl (aa rfl) rfl rfl rfl KN rfl rfl rfl rfl hroom ?_;change TX _ _ _ _ _ _ _ _ _ [dK v11 (bs) 5,ag b [(.chan (some c))] 208,dW c 8 (us++[v11]) (s+1) (r)];refine sy rfl (aa rfl) rfl rfl (lE (vs:=[(.int .i64 0),(.bool false)]) rfl rfl rfl) ?_;refine sy rfl (aa rfl) rfl rfl (MN rfl rfl rfl) ?_;refine Jf ?_;refine ac J4 ?_;refine aq ?_;refine iG rfl ?_;refine sr λ_ J5=>?_
 refine oW ?_;refine nx J5 ?_;refine ai ?_;refine aH ?_;refine aF (dh _) (λ_ s=>ak [1,1,0] rfl s) ?_;refine au rfl rfl ?_;exact⟨rfl,_,rfl⟩
theorem wF(b c s r:Nat)(us:List Value)(ls:List (List UInt8))(h8:ls.length≤8)(hb: ∀x∈ls,x.length≤1000000):
    DT 101 #[(.pointer (some ⟨b,0,none⟩))] T0 [ag b [(.chan (some c))] 208,dW c 8 (us) (s) (r),en (us) (ls) 5] (c9 (λv H=>((ls.length=0∨ls.length=8)∧v= .bool false∧H=[ag b [(.chan (some c))] 208,dW c 8 us s r,en us ls 5])∨(ls.length≠0∧ls.length≠8∧v= .bool true∧∃un,H=[ag b [(.chan (some c))] 208,dW c 8 (us++[un]) (s+us.length+1) (r+us.length),en us ls 5,dK un (ls.getD 0 []) 5]))):=by
 refine BD 41 Tryz.func101 rfl rfl rfl λw0 F hF=>sr λ_ J1=>PS ?_
 refine nx J1 (sr λ_ J2=>PS ?_);refine CE tG (su b c s r us ls) ID ?_;change TL _ _ _ _ _ _ _ _ _ [ag b [(.chan (some c))] 208,dW c 8 (us) (s) (r),en (us) (ls) 5];refine xw (p:=us.length=ls.length) (λw m=>(p6 2 rfl rfl m).1) (λhul=>PS ?_);refine nx J2 (ab λ_ J3=>sr λ_ J4=>P2 ?_);refine an ?_ ?_<;>intro h10;refine PS ?_
 iterate 7 refine UT ?_
 refine PS ?_;refine nx J4 (CY (sr λ_ J5=>PS ?_));refine nx J5 (ai (ae (WK [0,0,0] (au rfl rfl ?_))));exact .inl ⟨by omega,rfl,rfl⟩;refine P4 ?_;refine FA 0 BU tn ?_;refine LA 0 ul ?_;refine tq (PV.capChan 1 rfl ul rfl rfl rfl) ?_;refine PS ?_;refine an ?_ ?_<;>intro h18;refine PS ?_;refine nx J4 (CY (sr λ_ J6=>PS ?_));refine nx J6 (ai (ae (WK [0,0,0] (au rfl rfl ?_))));exact .inl ⟨by omega,rfl,rfl⟩;refine PS ?_;refine nx J4 (CN (qx J3 (sr λ_ J7=>PS ?_)));refine nx J7 (ab λ_ J8=>sr λ_ J9=>P2 ?_);refine nx J9 (aq ?_)
 refine bn (α:=(Nat)) (λk=>k≤us.length) (λk=>[(0,(.pointer (some ⟨b,0,none⟩))),(2,(.bool false)),(4,(Bl k (us.getD 0 undef))),(20,(.int .i64 (((ls.length:Nat):Int)))),(21,(.int .i64 (((k:Nat):Int))))]) (λk=>[ag b [(.chan (some c))] 208,dW c 8 (us.drop k++us.take k) (s+k) (r+k),en (us) (ls) 5]) (λk=>us.length-k) 0
     (aN _) SB
     (λ_ q=>by simpa using q) (λk hinv=>?_)
 obtain hk:=hinv;refine sr λ_ J10=>PS ?_
 refine an ?_ ?_<;>intro h22;have hku:k<us.length:=by omega
 refine nx J10 (ab λ_ J11=>CY (qx J11 (ab λ_ J12=>aq (sr λ_ J13=>P2 ?_))));refine nx J13 (ab λ_ J14=>xy (sy rfl (aa rfl) rfl rfl (cj rfl rfl) (sy rfl (aa rfl) rfl rfl (fT rfl rfl) (sy rfl (aa rfl) rfl rfl (aV (r:=0) rfl BU rfl tn rfl rfl) (sy rfl (aa rfl) rfl rfl (e7 (v:=(.chan (some c))) rfl ul rfl rfl (RO 0) rfl) (TX.recv1 1 rfl (aa rfl) rfl rfl rfl ul KN rfl rfl rfl (GQ hku) (sy rfl (aa rfl) rfl rfl (oT rfl rfl) (Jf (ac J14 (ab λ_ J15=>?_))))))))));refine sr λ_ J16=>P2 ?_
 refine an ?_ ?_<;>intro h30;refine nx J16 (CY (ad (P2 ?_)));refine nx J15 (xy (sy rfl (aa rfl) rfl rfl (cj rfl rfl) (sy rfl (aa rfl) rfl rfl (fT rfl rfl) (sy rfl (aa rfl) rfl rfl (aV (r:=0) rfl BU rfl tn rfl rfl) (sy rfl (aa rfl) rfl rfl (e7 (v:=(.chan (some c))) rfl ul rfl rfl (RO 0) rfl) (sy rfl (aa rfl) rfl rfl (cj rfl rfl) (TX.send1 1 rfl (aa rfl) rfl rfl rfl rfl rfl rfl (by simp only[aj,dS,bG];omega) (Jf (af (ac J12 (ad ?_)))))))))));refine AD ?_;refine PS ?_;refine ap ?_
 exact aI ((k+1):(Nat)) (by omega) (by show us.length- (k+1)<us.length-k;omega)
   (aL (aL (bd rfl (by first|exact HA (by omega) hku|exact Hy (by omega)) SB)))
   (λ_ q=>by
      rw[AV hku]at q
      exact q)
 refine nx J16 (CN (qx J15 (xy (sy rfl (aa rfl) rfl rfl (cj rfl rfl) (sy rfl (aa rfl) rfl rfl (fT rfl rfl) (sy rfl (aa rfl) rfl rfl (aV (r:=0) rfl BU rfl tn rfl rfl) (sy rfl (aa rfl) rfl rfl (e7 (v:=(.chan (some c))) rfl ul rfl rfl (RO 0) rfl) (sy rfl (aa rfl) rfl rfl (cj rfl rfl) (TX.send1 1 rfl (aa rfl) rfl rfl rfl rfl rfl rfl (by simp only[aj,dS,bG];omega) (Jf (af ?_)))))))))));refine ac J12 (ad (AD ?_));refine PS ?_;refine ap ?_
 exact aI ((k+1):(Nat)) (by omega) (by show us.length- (k+1)<us.length-k;omega)
   (aL (aL (bd rfl (by first|exact HA (by omega) hku|exact Hy (by omega)) SB)))
   (λ_ q=>by
      rw[AV hku]at q
      exact q)
 obtain rfl:k=us.length:=by omega
 have hpos:0<ls.length:=by omega
 have hg:ls.getD 0 []=ls[0]:=by simp[List.getD_eq_getElem?_getD,hpos]
 refine cq (H':=[ag b [(.chan (some c))] 208,dW c 8 us (s+us.length) (r+us.length),en us ls 5]) (λ_ q=>by simpa using q) (nx J10 (ab λ_ J17=>CN (aS (ay (ay (bj (ac J8 (sr λ_ J18=>P2 ?_))))))))
 refine gP (aa rfl) rfl rfl rfl G9 rfl (zO b c (s+us.length) (r+us.length) us (Bl us.length (us.getD 0 undef)) (ls.getD 0 []) (hb _ (hg▸eY hpos)) (by omega)) (λ_ s=>s) (λg d s=>by
          rw[Hz (by omega),hg]
          exact H9 (tc 0 hpos rfl rfl g d s)) (λvR HR hR=>?_)
 obtain⟨rfl,un,rfl⟩:=hR;refine PS ?_;refine nx J18 (ai (WK [0,0,1,0] (au rfl rfl ?_)));exact .inr ⟨by omega,by omega,rfl,un,rfl⟩
theorem xp(b:Nat)(ls:List (List UInt8))(h8:ls.length≤8)(hb: ∀x∈ls,x.length≤1000000):DT 101 #[.pointer (some ⟨b,0,none⟩)] T0 [gB 208 5 b ls] (RI (.bool (Gy ls)) [gB 208 5 b (Cg ls)]):=
 Leg.Does.pack (B:=[]) λq=>Leg.Does.fold (wF b q.1 q.2.2.1 q.2.2.2 q.2.1 ls h8 hb) λe H hp=>by
  cases e with
  |returned v=>
   unfold Gy Cg;rcases hp with⟨h,rfl,rfl⟩| ⟨h1,h2,rfl,un,rfl⟩
   · exact⟨[gB 208 5 b ls],λ_ s=>bi (p:=λq:Nat×List Value×Nat×Nat=>[ag b [.chan (some q.1)] 208,dW q.1 8 q.2.1 q.2.2.1 q.2.2.2,en q.2.1 ls 5]) (H:=[]) q s,by rw[decide_eq_false (by omega)],by rw[if_neg (by omega)]⟩
   · refine⟨[gB 208 5 b (ls++[ls.getD 0 []])],λ_ s=>?_,by rw[decide_eq_true (by omega)],by rw[if_pos (by omega)];rfl⟩
     have s1:=yW 3 rfl rfl s;have s2:=az [2,2] rfl s1;have s3:=ti s2;exact bi (p:=λq:Nat×List Value×Nat×Nat=>[ag b [.chan (some q.1)] 208,dW q.1 8 q.2.1 q.2.2.1 q.2.2.2,en q.2.1 (ls++[ls.getD 0 []]) 5]) (H:=[]) (q.1,q.2.1++[un],q.2.2.1+q.2.1.length+1,q.2.2.2+q.2.1.length) (az [1,1,0] rfl s3)
  |panicked c=>exact hp.elim
  |outgrown=>exact hp.elim
theorem sq(b:Nat)(ls:List (List UInt8))(h8:ls.length≤8)(hb: ∀x∈ls,x.length≤1000000):
 DT 102 #[(.pointer (some ⟨b,0,none⟩))] T0 [gB 208 5 b (ls)] (c9 (λv H=>H=[gB 208 5 b (ry ls)])):=by
 refine BD 16 Tryz.func102 rfl rfl rfl λw0 F hF=>sr λ_ J1=>PS ?_
 refine nx J1 (sr λ_ J2=>PS ?_);refine CR JE (st b ls) ID λvR HR hR=>?_
 rcases hR with⟨rfl,rfl,rfl⟩| ⟨u,f,lt,rfl,rfl,rfl⟩
 refine P4 ?_;refine PS ?_;refine nx J2 (sr λ_ J3=>P2 ?_)
 iterate 3 refine UF ?_
 refine P2 ?_;exact nx J3 (ai (WK [0] (au rfl rfl rfl)));refine P4 ?_;refine PS ?_;refine nx J2 (sr λ_ J4=>P4 ?_);refine CF G9 (tW b lt u f (hb f (kd ..))) ID (λg d s=>H9 (zv 0 rfl rfl g d s)) ?_;refine P2 ?_;refine nx J4 (ai (WK [0] (au rfl rfl ?_)));exact congrArg (λq=>[gB 208 5 b q]) (if_pos (show lt.length<8 by have:=h8;rw[ax]at this;omega))
end Go.Proofs.YtjblgopghhgflaaGreat
end

section
namespace Leg
open Go
def RdG(S:World→Prop)(b:Nat){α:Type}(c:α→List Value)(T:TypeId):Prop:=∀w,S w→∃a,w.heap[b]?=some (.cells (c a).toArray T (0,0))
abbrev hid{α:Type}(b:Nat)(c:α→List Value)(T:TypeId)(R:α→List HP):HP:=pack (λa=>ag b (c a) T::R a)
section
variable {P:Program} {w0:World} {F:Hl} {n:Nat} {ops:Array Oper} {Q:QQ} {D:List Deferred} {L:List (Nat×Value)} {H:List HP} {o:Oper} {l:List Oper} {d:Nat} {S:World→Prop} {α:Type} {b j:Nat} {c c':α→List Value} {T:TypeId} {R R':α→List HP}
theorem Sat.packOpen{p:α→List HP}{w:World}(i:Nat)(s:Sat H F w)(hi:i<H.length)(hH:H.getD i (λ_=>True)=pack p): ∃a,Sat (p a++H.eraseIdx i) F w:=by
 obtain⟨h,d,e,x⟩:=s;have y:=eO i hi x;rw[hH]at y;obtain⟨a,z⟩:=fk (p:=p) (H:=H.eraseIdx i) (h:=h) y;exact⟨a,h,d,e,z⟩
theorem Sat.packShut{p:α→List HP}{w:World}(i:Nat)(hi:i<H.length)(a:α)(s:Sat (p a++H.eraseIdx i) F w):Sat (H.set i (pack p)) F w:=by
 obtain⟨h,d,e,x⟩:=s;exact⟨h,d,e,km i hi (bi a x)⟩
theorem RdG.own(i:Nat)(hi:Nat.blt i H.length=true)(hH:H.getD i (λ_=>True)=hid b c T R):RdG (Sat H F) b c T:=λw s=>by
 obtain⟨a,t⟩:=s.packOpen i (lb hi) hH;exact⟨a,t.block 0 (by simp) rfl⟩
abbrev cL:= @RdG.own
theorem PV.load1G{t:TypeId}{x:Operand}{dt:TypeDesc}{v:Value}(ho:o.op= .load t x)(ht:P.underlying t=some dt)(hp:eg dt=true)(hx:cy L x=some (.pointer (some ⟨b,j,none⟩)))(hR:RdG S b c T)(hc: ∀a,(c a)[j]?=some v):PV P n D L S o v:=
 λa w f m=>by
  obtain⟨y,hy⟩:=hR w m;exact e7 (S:=λw'=>w'=w) ho ht hp hx (λ_ e=>e▸hy) (hc y) a w f rfl
abbrev cY:= @PV.load1G
theorem PV.loadNG{t:TypeId}{x:Operand}{dt:TypeDesc}{m:Nat}{vs:List Value}(ho:o.op= .load t x)(ht:P.underlying t=some dt)(hp:eg dt=false)(hm:(P.info? t).map (·.size)=some m)(hx:cy L x=some (.pointer (some ⟨b,j,none⟩)))(hR:RdG S b c T)(hl:vs.length=m)(hc: ∀a,((c a).drop j).take m=vs):PV P n D L S o (.agg vs.toArray):=
 λa w f s=>by
  obtain⟨y,hy⟩:=hR w s;exact aM (S:=λw'=>w'=w) ho ht hp hm hx (λ_ e=>e▸hy) hl (hc y) a w f rfl
abbrev fQ:= @PV.loadNG
theorem TL.storeG{i:Nat}{t:TypeId}{x y:Operand}{v:Value}{vs:List Value}(hw:Want n D ops o L)(ho:o.op= .store t x y)(hd:o.dst=none)
 (hx:cy L x=some (.pointer (some ⟨b,j,none⟩))) (hy:cy L y=some v) (hv:v.cells=vs.toArray) (hs:(P.info? t).map (·.size)=some vs.length) (h1: ∀u∈vs,u.oneCell'=true)
 (hi:Nat.blt i H.length=true) (hH:H.getD i (λ_=>True)=hid b c T R) (hl: ∀a,j+vs.length≤(c a).length) (hcs: ∀a,wr (c a) j vs=c' a)
 (h:TL P w0 F n ops Q l D L (H.set i (hid b c' T R))):TL P w0 F n ops Q (o::l) D L H:=
 TL.eff hw hd (λa w f _ m=>by
  obtain⟨q,m1⟩:=m.packOpen i (lb hi) hH;have hb:=m1.block 0 (by simp) rfl;refine⟨w.setRow b (wr (c q) j vs).toArray,by simp[execOp,ho,f.eval hx,f.eval hy,vn hv hs h1 hb (hl q)],⟨rfl,rfl,rfl,by simp⟩,?_⟩;rw[hcs q]
  exact Sat.packShut (p:=λa=>ag b (c' a) T::R a) i (lb hi) q (m1.write 0 (by simp) rfl (setRow_heap w b (c q).toArray _ T _ hb) (λk hk=>setRow_other w b k _ hk))) h
abbrev gD:= @TL.storeG
theorem TL.store1G{i:Nat}{t:TypeId}{x y:Operand}{v:Value}(hw:Want n D ops o L)(ho:o.op= .store t x y)(hd:o.dst=none)
 (hx:cy L x=some (.pointer (some ⟨b,j,none⟩))) (hy:cy L y=some v) (h1:v.oneCell'=true) (hs:(P.info? t).map (·.size)=some 1)
 (hi:Nat.blt i H.length=true) (hH:H.getD i (λ_=>True)=hid b c T R) (hl: ∀a,j< (c a).length) (hcs: ∀a,(c a).set j v=c' a)
 (h:TL P w0 F n ops Q l D L (H.set i (hid b c' T R))):TL P w0 F n ops Q (o::l) D L H:=
 gD (vs:=[v]) hw ho hd hx hy (by cases v<;>simp[Value.cells,Value.oneCell']at h1 ⊢) hs (by simpa using h1) hi hH (λa=>by have:=hl a;simp;omega)
  (λa=>by rw[←hcs a,wr,nw,if_pos (hl a)];simp) h
theorem EX{p p' a b c d:HP}{h:Hl}(e: ∀h,p h→p' h)(s:bC (a::b::c::d::p::H) h):bC (a::b::c::d::p'::H) h:=
 cA s (λ_ x=>x) λ_ s=>cA s (λ_ x=>x) λ_ s=>cA s (λ_ x=>x) λ_ s=>cA s (λ_ x=>x) λ_ s=>cA s e λ_ x=>x
theorem Does.hid{f:FuncId}{args:Array Value}{A:List HP}{q:Value→Prop}(h: ∀a,Does P f args (λ_=>True) (ag b (c a) T::A) (c9 λv H=>q v∧H=ag b (c' a) T::A)):Does P f args (λ_=>True) (Leg.hid b c T R::A) (c9 λv H=>q v∧H=Leg.hid b c' T R::A):=
 Does.pack λa=>Does.withinR (B:=R a) (h a) (λ_ _ _ _=>trivial) (λ_ s=>ee (List.Perm.cons (ag b (c a) T) (List.perm_append_comm (l₁:=R a) (l₂:=A))) s) λv H hp=>by
  obtain⟨h1,rfl⟩:=hp;exact⟨_,λ_ s=>bi (p:=λa=>ag b (c' a) T::R a) a (ee (List.Perm.cons (ag b (c' a) T) (List.perm_append_comm (l₁:=A) (l₂:=R a))) s),h1,rfl⟩
end
open Api
variable {P:Program} {w0:World} {F:Hl} {n:Nat} {ops:Array Oper} {Q:QQ} {D:List Deferred} {L:List (Nat×Value)} {H:List HP} {d:Nat} {o:Oper} {l:List Oper}
section
variable {A:Type} {b:Nat} {c:A→List Value} {T:TypeId} {R:A→List HP}
theorem LG{t:TypeId}{x:Operand}{dt:TypeDesc}{j:Nat}(k:Nat)(ht:P.underlying t=some dt)(v:Value)(h:TL P w0 F n ops Q l D ((d,v)::L) H)(hw:Want n D ops o L:=by first|exact aa rfl|exact bM rfl rfl rfl)(hd:o.dst=some d:=by exact rfl)(hn:Nat.blt d n=true:=by exact rfl)(ho:o.op= .load t x:=by exact rfl)(hp:eg dt=true:=by exact rfl)(hx:cy L x=some (.pointer (some ⟨b,j,none⟩)):=by exact rfl)(hk:Nat.blt k H.length=true:=by exact rfl)(hH:H.getD k (λ_=>True)=hid b c T R:=by exact rfl)(hc: ∀a,(c a)[j]?=some v):TL P w0 F n ops Q (o::l) D L H:=dm hw hd hn (cY ho ht hp hx (cL k hk hH) hc) h
theorem LZ{α:Type}{f:α→List Int}{t:TypeId}{x:Operand}{dt:TypeDesc}{j m:Nat}(k:Nat)(ht:P.underlying t=some dt)(hs:(P.info? t).map (·.size)=some m)(hf: ∀x,(ints (f x)).length=m)(y:α)(h:TL P w0 F n ops Q l D ((d, .agg (ints (f y)).toArray)::L) H)(hw:Want n D ops o L:=by first|exact aa rfl|exact bM rfl rfl rfl)(hd:o.dst=some d:=by exact rfl)(hn:Nat.blt d n=true:=by exact rfl)(ho:o.op= .load t x:=by exact rfl)(hp:eg dt=false:=by exact rfl)(hx:cy L x=some (.pointer (some ⟨b,j,none⟩)):=by exact rfl)(hk:Nat.blt k H.length=true:=by exact rfl)(hH:H.getD k (λ_=>True)=hid b c T R:=by exact rfl)(hc: ∀a,((c a).drop j).take m=ints (f y)):TL P w0 F n ops Q (o::l) D L H:=dm hw hd hn (fQ ho ht hp hs hx (cL k hk hH) (hf y) hc) h
theorem SK{o:Oper}{l:List Oper}{t:TypeId}{x y:Operand}{j m:Nat}{v:Value}{c':A→List Value}(k:Nat)(hs:(P.info? t).map (·.size)=some 1)(hl: ∀a,(c a).length=m)(h:TL P w0 F n ops Q l D L (H.set k (hid b c' T R)))(hw:Want n D ops o L:=by first|exact aa rfl|exact bM rfl rfl rfl)(hd:o.dst=none:=by exact rfl)(ho:o.op= .store t x y:=by exact rfl)(hx:cy L x=some (.pointer (some ⟨b,j,none⟩)):=by exact rfl)(hy:cy L y=some v:=by exact rfl)(h1:v.oneCell'=true:=by exact rfl)(hk:Nat.blt k H.length=true:=by exact rfl)(hH:H.getD k (λ_=>True)=hid b c T R:=by exact rfl)(hj:Nat.blt j m=true:=by first|exact rfl|exact Nat.ble_eq_true_of_le (by omega))(hc: ∀a,(c a).set j v=c' a):TL P w0 F n ops Q (o::l) D L H:=TL.store1G hw ho hd hx hy h1 hs hk hH (λa=>(hl a)▸lb hj) hc h
end
end Leg
end

section
namespace Go.Proofs.YtjblgopghhgflaaGreat
open Go Leg Codec Api Dsk Wal
structure Env(δ:Type) extends Dk δ where
 T:Nat
 ov:Value
 sf:Nat
 E:δ→List SaidT→HP
 lg:Nat→δ→HP
 me : wU Tryz.prog T ov "Send" sf
 nm:Named Tryz.prog sf
 say: ∀(e:δ) (l:List SaidT) (to':Int) (m:MsgT),ok e→Leg.Does Tryz.prog sf #[ov, .int .i64 to', .agg (ints m.flat).toArray] (λ_=>True) [E e l] (c9 (λ_ H=>H=[E e (if dn e then l else l++[SaidT.mk to' m])]))
 put: ∀(g:Nat) (x:Value) (bs:List UInt8) (e:δ) (l:List SaidT),ok e→bs.length≤3000→Leg.Does Tryz.prog 166 #[.pointer (some ⟨g,0,none⟩),x] (IsW x bs) [lg g e,E e l] (c9 (λv H=>v= .int .i64 (pt e bs).2∧H=[lg g (pt e bs).1,E (pt e bs).1 l]))
def DO(vo:Value):Option VoteT→HP
 |none=>λ_=>vo= .pointer none
 |some vt=>λh=>∃b,vo= .pointer (some ⟨b,0,none⟩)∧ag b (VoteT.cells vt) 227 h
abbrev cC{δ:Type}(V:Env δ)(r:Nat)(s:MS δ):HP:=hid r (λa:Adr=>RepT.cells (s.rep a)) 123 (λa=>[V.lg a.lg s.e,own a.rs s.replies.length (ints (s.replies.flatMap ReplyT.flat)) 37 3,DO a.vo s.vote,V.E s.e s.o])
abbrev uG{δ:Type}(V:Env δ)(r:Nat)(s:MS δ)(vo:Value):HP:=hid r (λa:Nat×Value=>RepT.cells (s.rep ⟨a.1,vo,a.2⟩)) 123 (λa=>[V.lg a.1 s.e,own a.2 s.replies.length (ints (s.replies.flatMap ReplyT.flat)) 37 3,V.E s.e s.o])
theorem jt{δ:Type}{V:Env δ}{r:Nat}{f:MS δ×Int}{X:MS δ}{y:Int}(e:f=(X,y)):Value.int .i64 y= .int .i64 f.2∧[cC V r X]=[cC V r f.1]:=by
 subst e;exact⟨rfl,rfl⟩
theorem E8{δ:Type}(V:Env δ)(r:Nat)(s:MS δ)(to':Int)(m:MsgT)[hs:OkR V.toDk s]:DT V.sf #[V.ov, .int .i64 to', .agg (ints m.flat).toArray] T0 [cC V r s] (c9 (λ_ H=>H=[cC V r (Cv V.toDk s to' m)])):=
 Leg.Does.pack λa=>Leg.Does.withinR (V.say s.e s.o to' m hs.e) (λ_ _ _ _=>trivial) (λ_ q=>az [4] rfl q) λv H hp=>by
  subst hp;refine⟨_,λ_ q=>?_,rfl⟩;have q2:=az [1,1,1,1,0] rfl q;exact bi (p:=λa:Adr=>[ag r (RepT.cells (s.rep a)) 123,V.lg a.lg s.e,own a.rs s.replies.length (ints (s.replies.flatMap ReplyT.flat)) 37 3,DO a.vo s.vote,V.E s.e (if V.dn s.e then s.o else s.o++[SaidT.mk to' m])]) a q2
theorem fW{δ:Type}(V:Env δ)(r:Nat)(s:MS δ)(to':Int)(m:MsgT)(f:MS δ→MS δ)(hT:to'=s.id→DT 105 #[.pointer (some ⟨r,0,none⟩), .iface V.T V.ov, .int .i64 s.id, .agg (ints m.flat).toArray] T0 [cC V r s] (c9 (λ_ H=>H=[cC V r (f s)])))[OkR V.toDk s]:
 DT 149 #[(.pointer (some ⟨r,0,none⟩)),(.iface V.T V.ov),(.int .i64 (to')),(.agg (ints m.flat).toArray)] T0 [cC V r s] (c9 (λ_ H=>H=[cC V r (m6 V.toDk f s to' m)])):=by
 refine Leg.Does.body (vs:=[(.pointer (some ⟨r,0,none⟩)),(.iface V.T V.ov),(.int .i64 (to')),(.agg (ints m.flat).toArray)]) (n:=28) Tryz.func149 rfl rfl rfl (λw0 F hF=>?_);refine sr λ_ J1=>?_
 refine TL.box (aa rfl) rfl rfl rfl rfl (λb7=>?_);change TL _ _ _ _ _ _ _ _ _ [ag b7 (ints m.flat) 178,cC V r s];refine nx J1 ?_;refine ab λ_ J2=>?_
 refine sr λ_ J3=>?_
 refine mv ?_;refine mv ?_;refine tp (fT rfl rfl) ?_;refine tp (aV (r:=0) rfl bg rfl aP rfl rfl) ?_;refine tp (cY (v:=(.int .i64 (s.id))) rfl Y3 rfl rfl (cL 1 rfl rfl) (λa_=>(cx (s.rep a_) rfl))) ?_;refine tp (MN rfl rfl rfl) ?_;refine an (λh13=>?_) (λh13=>?_);refine nx J3 ?_;refine iG rfl ?_;refine ab λ_ J4=>?_
 refine lR (λw=>Frm F w∧w.heap[b7]?=some (.cells (ints m.flat).toArray 178 (0,0))∧True) bh rfl (λ_ s=>⟨dT s,s.block 0 (lb rfl) rfl,trivial⟩) ?_;refine ta 0 rfl (cj rfl rfl) ?_;refine ta 1 rfl (cj rfl rfl) ?_;refine ta 2 rfl (cj rfl rfl) ?_;refine ta 3 rfl (fT rfl rfl) ?_;refine ta 4 rfl (aV (r:=0) rfl bg rfl aP rfl rfl) ?_;refine ta 6 rfl (aM (vs:=ints m.flat) rfl a9 rfl bW rfl (λ_ h=>h.2.1) (aG m) (whole (aG m))) ?_;refine cw [5] (by kernel_rfl) rfl ?_;refine aE rfl ?_ ?_;refine tp (cY (v:=(.int .i64 (s.id))) rfl Y3 rfl rfl (cL 1 rfl rfl) (λa_=>(cx (s.rep a_) rfl))) ?_;refine ap ?_;refine mT (λ_ s=>⟨dT s,s.block 0 (lb rfl) rfl,trivial⟩) ?_;refine cw [7] (by kernel_rfl) rfl ?_;refine aE rfl ?_ ?_;refine gP (aa rfl) rfl rfl rfl JK rfl ((by have h:=hT h13;exact h)) (λ_ s=>az [1] rfl s) (λ_ _ _=>trivial) (λvR HR hR=>?_);obtain rfl:=hR;refine ap ?_;refine mT (λ_ s=>⟨dT s,s.block 1 (lb rfl) rfl,trivial⟩) ?_;refine Ob (by kernel_rfl) ?_;refine ac J4 ?_;refine ai ?_;refine ae ?_;refine aF (dh _) (λ_ s=>ak [0] rfl s) ?_;refine dz rfl ?_;exact(congrArg (λq=>[cC V r q]) (if_pos h13)).symm;exact bw;exact bw;refine nx J3 ?_;refine sz rfl ?_;refine aQ ?_;refine ac J2 ?_;refine sr λ_ J5=>?_
 refine mv ?_;refine tp (PV.ifaceNotNil rfl Tryz.underlying168 rfl) ?_;refine nx J5 ?_;refine iG rfl ?_;refine ad ?_;refine mv ?_;refine mv ?_;refine tp (aM (vs:=ints m.flat) rfl a9 rfl bW rfl (dG 0 rfl rfl) (aG m) (whole (aG m))) ?_;refine TL.callI (aa rfl) rfl rfl rfl rfl V.me V.nm rfl (E8 V r s to' m) (λ_ s=>az [1] rfl s) (λ_ _ _=>trivial) (λvR HR hR=>?_);obtain rfl:=hR;refine ap ?_;refine aF (dh _) (λ_ s=>ak [0] rfl s) ?_;refine bz rfl ?_;exact(congrArg (λq=>[cC V r q]) (if_neg h13)).symm
theorem jh{δ:Type}(V:Env δ)(r:Nat)(s:MS δ)(to':Int)(m:MsgT)(hto:to'≠s.id)[OkR V.toDk s]:DT 149 #[.pointer (some ⟨r,0,none⟩), .iface V.T V.ov, .int .i64 to', .agg (ints m.flat).toArray] T0 [cC V r s] (c9 (λ_ H=>H=[cC V r (iC V.toDk s [⟨to',m⟩])])):=by
 have h:=fW V r s to' m id (λe=>absurd e hto)
 rwa [show m6 V.toDk id s to' m=iC V.toDk s [⟨to',m⟩]from if_neg hto]at h
theorem nH{δ:Type}(V:Env δ)(r:Nat)(s:MS δ)(l:List SaidT)(to':Int)(m:MsgT)(hto:to'≠s.id)[OkR V.toDk s]:DT 149 #[.pointer (some ⟨r,0,none⟩), .iface V.T V.ov, .int .i64 to', .agg (ints m.flat).toArray] T0 [cC V r (iC V.toDk s l)] (c9 (λ_ H=>H=[cC V r (iC V.toDk s (l++[⟨to',m⟩]))])):=by
 have h:=jh V r (iC V.toDk s l) to' m hto
 rwa [GL]at h
theorem MQ{δ:Type}{V:Env δ}{r:Nat}{a b:MS δ}(h:a=b):[cC V r a]=[cC V r b]:=by rw[h]
theorem nh{δ:Type}(V:Env δ)(r:Nat)(s:MS δ)[OkR V.toDk s]:
 DT 106 #[(.pointer (some ⟨r,0,none⟩)),(.iface V.T V.ov)] T0 [cC V r s] (c9 (λ_ H=>H=[cC V r (fj V.toDk s)])):=by
 refine BD 40 Tryz.func106 rfl rfl rfl λw0 F hF=>?_
 have hid:cF s.id=true:=OkR.id;have hid2:0≤s.id∧s.id<5:=of_decide_eq_true hid;refine ab λ_ J1=>DB bh (cL 0 rfl rfl) ?_
 refine PD 0 ?_;refine PD 1 ?_;refine FD 2 0 bg aP ?_;refine ta 3 rfl (cY (v:=(.int .i64 (s.id))) rfl Y3 rfl rfl (λ_ h=>h.2.1) (λa_=>(cx _ rfl))) ?_;refine PD 4 ?_;refine PD 5 ?_;refine FD 6 9 bg aZ ?_;refine ta 7 rfl (fQ (vs:=ints s.own.flat) rfl dN rfl aZ rfl (λ_ h=>h.2.1) (ah s.own) (λa_=>(xz (s.rep a_) 0 rfl (by decide) (whole (ah ((s.rep a_).own)))))) ?_;refine ta 8 rfl (kO MsgT.zero (MsgT.mk 0 s.id s.own 0 0 BallotT.zero BallotT.zero ChangeT.zero ViewT.zero) [(0,[Value.int .i64 0]),(1,[Value.int .i64 s.id]),(2,ints s.own.flat)] a9 bo (g:=MsgT.sg)) ?_;refine AL 9 ?_;refine XZ l4 (ints MsgT.zero.flat) λb4=>?_
 refine EN (AL 10 ?_);refine SW 0 bW aG ?_;refine EN (DN (ac J1 (sr λ_ J2=>P2 ?_)));refine FA 0 bg aP ?_;refine LG 1 Y3 (.int .i64 (s.id)) ?_ (hc:=by exact λa_=>(cx _ rfl));refine CR G4 (pX s.id hid) ID λvR HR hR=>?_
 obtain⟨_,rfl,rfl⟩:=hR;revert vR;intro uw;refine kD 0 rfl rfl (λhluw _=>jJ 0 rfl rfl (by omega) (λgw capw hvw hcapw=>tp (dX rfl jZ rfl hluw) ?_));refine PS ?_;refine nx J2 (aq (ra 2 (sr λ_ J3=>PS ?_)));refine nx J3 (ab λ_ J4=>CY (qx J4 (ab λ_ J5=>aq (sr λ_ J6=>tp (bS (r:=0) hvw rfl jZ aP rfl rfl (by omega) (by omega) rfl) ?_))));refine tp (cX (v:=(.int .i64 (((s.id+1)%5)))) rfl Y3 rfl rfl (fU 0 rfl hvw rfl) rfl) ?_;refine PS ?_;refine nx J6 (sr λ_ J7=>P2 ?_);refine FA 1939 bg aP ?_;refine LG 2 Y3 (.int .i64 (s.kept)) ?_ (hc:=by exact λa_=>(qZ _ rfl));refine PS ?_;refine tp (lD (r:=(s.kept.fdiv (2^min (((s.id+1)%5)).toNat IntKind.i64.bits))) rfl rfl rfl (by omega) rfl) ?_;refine tp (uu (r:=((s.kept.fdiv (2^min (((s.id+1)%5)).toNat IntKind.i64.bits))%2)) rfl rfl rfl (mask (k:=1) (by decide) _)) ?_;refine PS ?_;refine an ?_ ?_<;>intro h33;refine nx J7 (CY (ad (P3 ?_)));refine LW 1 a9 bW aG ?_;refine CZ iT (jh V r s ((s.id+1)%5) (MsgT.mk 0 s.id s.own 0 0 BallotT.zero BallotT.zero ChangeT.zero ViewT.zero) (by omega)) (SM [2]) λvR=>?_
 refine ap (af (ac J5 (ad (tp (cg (r:=1) rfl rfl rfl (by decide)) ?_))));refine PS ?_;refine ap (ei (sr λ_ J8=>PS ?_));refine nx J8 (ab λ_ J9=>CY (qx J9 (ab λ_ J10=>aq (sr λ_ J11=>tp (bS (r:=1) hvw rfl jZ aP rfl rfl (by omega) (by omega) rfl) ?_))));refine tp (cX (v:=(.int .i64 (((s.id+2)%5)))) rfl Y3 rfl rfl (fU 1 rfl hvw rfl) rfl) ?_;refine PS ?_;refine nx J11 (sr λ_ J12=>P2 ?_);refine FA 1939 bg aP ?_;refine LG 0 Y3 (.int .i64 (s.kept)) ?_ (hc:=by exact λa_=>(qZ _ rfl));refine PS ?_;refine tp (lD (r:=(s.kept.fdiv (2^min (((s.id+2)%5)).toNat IntKind.i64.bits))) rfl rfl rfl (by omega) rfl) ?_;refine tp (uu (r:=((s.kept.fdiv (2^min (((s.id+2)%5)).toNat IntKind.i64.bits))%2)) rfl rfl rfl (mask (k:=1) (by decide) _)) ?_;refine PS ?_;refine an ?_ ?_<;>intro h33;refine nx J12 (CY (ad (P3 ?_)));refine LW 2 a9 bW aG ?_;refine CZ iT (nH V r s ([SaidT.mk ((s.id+1)%5) (MsgT.mk 0 s.id s.own 0 0 BallotT.zero BallotT.zero ChangeT.zero ViewT.zero)]) ((s.id+2)%5) (MsgT.mk 0 s.id s.own 0 0 BallotT.zero BallotT.zero ChangeT.zero ViewT.zero) (by omega)) ID λvR=>?_
 refine ap (af (ac J10 (ad (tp (cg (r:=2) rfl rfl rfl (by decide)) ?_))));refine PS ?_;refine ap (ei (sr λ_ J13=>PS ?_));refine nx J13 (ab λ_ J14=>CN (aS (ay (ay (bj (WK [0] (bz rfl ?_)))))));exact MQ (by rw[fj,show pj (s.rep .nil)=[SaidT.mk ((s.id+1)%5) (MsgT.mk 0 s.id s.own 0 0 BallotT.zero BallotT.zero ChangeT.zero ViewT.zero)]++[SaidT.mk ((s.id+2)%5) (MsgT.mk 0 s.id s.own 0 0 BallotT.zero BallotT.zero ChangeT.zero ViewT.zero)]by rw[pj,gE,if_pos hid];simp[zR,vv,MsgT.zero,Adr.nil, *]]);refine nx J12 (CN (aQ (af (ac J10 (ad (tp (cg (r:=2) rfl rfl rfl (by decide)) ?_))))));refine PS ?_;refine ap (ei (sr λ_ J15=>PS ?_));refine nx J15 (ab λ_ J16=>CN (aS (ay (ay (bj (WK [0] (bz rfl ?_)))))));exact MQ (by rw[fj,show pj (s.rep .nil)=[SaidT.mk ((s.id+1)%5) (MsgT.mk 0 s.id s.own 0 0 BallotT.zero BallotT.zero ChangeT.zero ViewT.zero)]by rw[pj,gE,if_pos hid];simp[zR,vv,MsgT.zero,Adr.nil, *]]);refine nx J7 (CN (aQ (af (ac J5 (ad (tp (cg (r:=1) rfl rfl rfl (by decide)) ?_))))));refine PS ?_;refine ap (ei (sr λ_ J17=>PS ?_));refine nx J17 (ab λ_ J18=>CY (qx J18 (ab λ_ J19=>aq (sr λ_ J20=>tp (bS (r:=1) hvw rfl jZ aP rfl rfl (by omega) (by omega) rfl) ?_))));refine tp (cX (v:=(.int .i64 (((s.id+2)%5)))) rfl Y3 rfl rfl (fU 0 rfl hvw rfl) rfl) ?_;refine PS ?_;refine nx J20 (sr λ_ J21=>P2 ?_);refine FA 1939 bg aP ?_;refine LG 2 Y3 (.int .i64 (s.kept)) ?_ (hc:=by exact λa_=>(qZ _ rfl))
 refine PS ?_;refine tp (lD (r:=(s.kept.fdiv (2^min (((s.id+2)%5)).toNat IntKind.i64.bits))) rfl rfl rfl (by omega) rfl) ?_;refine tp (uu (r:=((s.kept.fdiv (2^min (((s.id+2)%5)).toNat IntKind.i64.bits))%2)) rfl rfl rfl (mask (k:=1) (by decide) _)) ?_;refine PS ?_;refine an ?_ ?_<;>intro h33;refine nx J21 (CY (ad (P3 ?_)));refine LW 1 a9 bW aG ?_;refine CZ iT (jh V r s ((s.id+2)%5) (MsgT.mk 0 s.id s.own 0 0 BallotT.zero BallotT.zero ChangeT.zero ViewT.zero) (by omega)) (SM [2]) λvR=>?_
 refine ap (af (ac J19 (ad (tp (cg (r:=2) rfl rfl rfl (by decide)) ?_))));refine PS ?_;refine ap (ei (sr λ_ J22=>PS ?_));refine nx J22 (ab λ_ J23=>CN (aS (ay (ay (bj (WK [0] (bz rfl ?_)))))));exact MQ (by rw[fj,show pj (s.rep .nil)=[SaidT.mk ((s.id+2)%5) (MsgT.mk 0 s.id s.own 0 0 BallotT.zero BallotT.zero ChangeT.zero ViewT.zero)]by rw[pj,gE,if_pos hid];simp[zR,vv,MsgT.zero,Adr.nil, *]]);refine nx J21 (CN (aQ (af (ac J19 (ad (tp (cg (r:=2) rfl rfl rfl (by decide)) ?_))))));refine PS ?_;refine ap (ei (sr λ_ J24=>PS ?_));refine nx J24 (ab λ_ J25=>CN (aS (ay (ay (bj (WK [2] (bz rfl ?_)))))));exact MQ (by rw[fj,show pj (s.rep .nil)=[]by rw[pj,gE,if_pos hid];simp[zR,vv,MsgT.zero,Adr.nil, *]];exact(pw _ _).symm)
theorem mz{δ:Type}(V:Env δ)(r:Nat)(s:MS δ)(y:RowT)[OkR V.toDk s]:
 DT 110 #[(.pointer (some ⟨r,0,none⟩)),(.iface V.T V.ov),(.agg (ints y.flat).toArray)] T0 [cC V r s] (c9 (λ_ H=>H=[cC V r (mj V.toDk s y)])):=by
 refine BD 27 Tryz.func110 rfl rfl rfl λw0 F hF=>sr λ_ J1=>XY (ints y.flat) λb5=>?_
 refine nx J1 (sr λ_ J2=>PS ?_);refine nx J2 (aq ?_)
 refine bn (α:=(Nat)) (λk=>k≤5) (λk=>[(0,(.pointer (some ⟨r,0,none⟩))),(1,(.iface V.T V.ov)),(5,(.pointer (some ⟨b5,0,none⟩))),(7,(.int .i64 (((k:Nat):Int))))]) (λk=>[ag b5 (ints y.flat) 60,cC V r (iC V.toDk s (nL s.id (rQ s.id y) (λ_=>true) k))]) (λk=>5-k) 0
  (aN _) SB
  (λ_ q=>by
  rw[show nL s.id (rQ s.id y) (λ_=>true) 0=[]from rfl,pw]
  exact q) (λk hinv=>?_)
 obtain hk:=hinv;refine sr λ_ J3=>PS ?_
 refine an ?_ ?_<;>intro h8;refine nx J3 (ab λ_ J4=>CY (qx J4 (ab λ_ J5=>aq (sr λ_ J6=>P2 ?_))));refine nx J6 (sr λ_ J7=>P3 ?_);refine FA 0 bg aP ?_;refine LG 1 Y3 (.int .i64 (s.id)) ?_ (hc:=by exact λa_=>(cx _ rfl));refine PS ?_;refine an ?_ ?_<;>intro h15;refine nx J7 (CY (DC bh (cL 1 rfl rfl) (BL 0) ?_));refine PD 0 ?_;refine PD 1 ?_;refine PD 2 ?_;refine PD 3 ?_;refine PD 4 ?_;refine FD 5 0 bg aP ?_;refine ta 6 rfl (cY (v:=(.int .i64 (s.id))) rfl Y3 rfl rfl (λ_ h=>h.2.1) (λa_=>(cx _ rfl))) ?_;refine LY 7 dN aZ ah ?_;refine ta 8 rfl (kO MsgT.zero (MsgT.mk 2 s.id y 0 0 BallotT.zero BallotT.zero ChangeT.zero ViewT.zero) [(0,[Value.int .i64 2]),(1,[Value.int .i64 s.id]),(2,ints y.flat)] a9 bo (g:=MsgT.sg)) ?_;refine AL 9 ?_;refine CZ iT (nH V r s (nL s.id (rQ s.id y) (λ_=>true) k) ((k:Nat):Int) (MsgT.mk 2 s.id y 0 0 BallotT.zero BallotT.zero ChangeT.zero ViewT.zero) h15) (SM [1]) λvR=>?_
 refine EN (DN (af (ac J5 (ad (AD ?_)))));refine PS ?_;refine ap ?_
 exact aI ((k+1):(Nat)) (by omega) (by show 5- (k+1)<5-k;omega)
  SB
  (λ_ q=>by
   rw[im,if_pos ⟨h15,rfl⟩]
   exact ak [1,0] rfl q)
 refine nx J7 (CN (aQ (af (ac J5 (ad (AD ?_))))));refine PS ?_;refine ap ?_
 exact aI ((k+1):(Nat)) (by omega) (by show 5- (k+1)<5-k;omega)
  SB
  (λ_ q=>by
   rw[im,if_neg (by omega)];rw[bb]
   exact ak [0,0] rfl q)
 refine nx J3 (ab λ_ J8=>CN (aS (ay (ay (bj (WK [1] (bz rfl ?_)))))));obtain rfl:k=5:=by omega
 exact rfl
theorem my{δ:Type}(V:Env δ)(r:Nat)(s:MS δ)(v:ViewT)[OkR V.toDk s]:
 DT 109 #[(.pointer (some ⟨r,0,none⟩)),(.iface V.T V.ov),(.agg (ints v.flat).toArray)] T0 [cC V r s] (c9 (λ_ H=>H=[cC V r (nC V.toDk s v)])):=by
 refine BD 23 Tryz.func109 rfl rfl rfl λw0 F hF=>sr λ_ J1=>XY (ints v.flat) λb5=>?_
 refine nx J1 (sr λ_ J2=>PS ?_);refine nx J2 (aq ?_)
 refine bn (α:=(Nat)) (λk=>k≤5) (λk=>[(0,(.pointer (some ⟨r,0,none⟩))),(1,(.iface V.T V.ov)),(5,(.pointer (some ⟨b5,0,none⟩))),(7,(.int .i64 (((k:Nat):Int))))]) (λk=>[ag b5 (ints v.flat) 44,cC V r (iC V.toDk s (nL s.id (jO v) (λ_=>true) k))]) (λk=>5-k) 0
  (aN _) SB
  (λ_ q=>by
  rw[show nL s.id (jO v) (λ_=>true) 0=[]from rfl,pw]
  exact q) (λk hinv=>?_)
 obtain hk:=hinv;refine sr λ_ J3=>PS ?_
 refine an ?_ ?_<;>intro h8;refine nx J3 (ab λ_ J4=>CY (qx J4 (ab λ_ J5=>aq (sr λ_ J6=>P2 ?_))));refine nx J6 (sr λ_ J7=>P3 ?_);refine FA 0 bg aP ?_;refine LG 1 Y3 (.int .i64 (s.id)) ?_ (hc:=by exact λa_=>(cx _ rfl));refine PS ?_;refine an ?_ ?_<;>intro h15;refine nx J7 (CY (ad (P3 ?_)));refine LW 0 eE bc am ?_;refine tp (kO MsgT.zero (MsgT.mk 7 0 RowT.zero 0 0 BallotT.zero BallotT.zero ChangeT.zero v) [(0,[Value.int .i64 7]),(8,ints v.flat)] a9 bo (g:=MsgT.sg)) ?_;refine CZ iT (nH V r s (nL s.id (jO v) (λ_=>true) k) ((k:Nat):Int) (MsgT.mk 7 0 RowT.zero 0 0 BallotT.zero BallotT.zero ChangeT.zero v) h15) (SM [1]) λvR=>?_
 refine ap (af (ac J5 (ad (AD ?_))));refine PS ?_;refine ap ?_
 exact aI ((k+1):(Nat)) (by omega) (by show 5- (k+1)<5-k;omega)
  SB
  (λ_ q=>by
   rw[im,if_pos ⟨h15,rfl⟩]
   exact ak [1,0] rfl q)
 refine nx J7 (CN (aQ (af (ac J5 (ad (AD ?_))))));refine PS ?_;refine ap ?_
 exact aI ((k+1):(Nat)) (by omega) (by show 5- (k+1)<5-k;omega)
  SB
  (λ_ q=>by
   rw[im,if_neg (by omega)];rw[bb]
   exact ak [0,0] rfl q)
 refine nx J3 (ab λ_ J8=>CN (aS (ay (ay (bj (WK [1] (bz rfl ?_)))))));obtain rfl:k=5:=by omega
 exact rfl
theorem Fq{δ:Type}(V:Env δ)(r lg:Nat)(x:RepT)(m:RecT)(e:δ)(l:List SaidT)(hlog:x.log= .pointer (some ⟨lg,0,none⟩))(hok:V.ok e):
 DT 136 #[(.pointer (some ⟨r,0,none⟩)),(.agg (ints m.flat).toArray)] T0 [ag r (RepT.cells x) 123,V.lg lg e,V.E e l] (RI (.int .i64 (V.pt e (jG m)).2) [ag r (RepT.cells x) 123,V.lg lg (V.pt e (jG m)).1,V.E (V.pt e (jG m)).1 l]):=by
 refine BD 12 Tryz.func136 rfl rfl rfl λw0 F hF=>sr λ_ J1=>XY (ints m.flat) λb3=>?_
 refine PS ?_;refine nx J1 (ab λ_ J2=>D2 1 0 bh ?_);refine PD 0 ?_;refine PD 1 ?_;refine FD 2 1 bg Lh ?_;refine LX 3 Tryz.underlying114 (.pointer (some ⟨lg,0,none⟩)) ?_ (hc:=by exact(RepT.at_log x rfl).trans (congrArg some hlog));refine LY 4 iI iN bl ?_;refine AL 5 ?_;refine CR NC (AX m) ID λvR HR hR=>?_
 obtain⟨_,rfl,rfl⟩:=hR;revert vR;intro ue;refine EN (AL 6 ?_);refine CF L9 (V.put lg ue (jG m) e l hok (Bu m)) (SM [3,3]) (λg d s=>H9 (uB 0 rfl rfl g d s)) ?_;refine EN (PD 7 ?_);exact DN (ac J2 (ai (WK [4,0,0] (au rfl rfl ⟨rfl,rfl⟩))))
theorem kQ{δ:Type}(V:Env δ)(r:Nat)(s:MS δ)(m:RecT)[hs:OkR V.toDk s]:DT 136 #[.pointer (some ⟨r,0,none⟩), .agg (ints m.flat).toArray] T0 [cC V r s] (RI (.int .i64 (rN V.toDk s m)) [cC V r (ef V.toDk s m)]):=
 Leg.Does.pack λa=>Leg.Does.withinR (Fq V r a.lg (s.rep a) m s.e s.o rfl hs.e) (λ_ _ _ _=>trivial) (λ_ q=>az [0,0,2] rfl q) λv H hp=>by
  obtain⟨h1,rfl⟩:=hp;exact⟨_,λ_ q=>bi (p:=λa:Adr=>[ag r (RepT.cells ((ef V.toDk s m).rep a)) 123,V.lg a.lg (ef V.toDk s m).e,own a.rs (ef V.toDk s m).replies.length (ints ((ef V.toDk s m).replies.flatMap ReplyT.flat)) 37 3,DO a.vo (ef V.toDk s m).vote,V.E (ef V.toDk s m).e (ef V.toDk s m).o]) a (az [0,0,1,1,0] rfl q),h1,rfl⟩
theorem eR{δ:Type}(V:Env δ)(r:Nat)(s:MS δ)(op err val:Int)(hrs:s.replies.length≤1000000):DT 97 #[.pointer (some ⟨r,0,none⟩), .int .i64 op, .int .i64 err, .int .i64 val] T0 [cC V r s] (c9 (λ_ H=>H=[cC V r (dB s op err val)])):=
 Leg.Does.pack λa=>Leg.Does.withinR (Cz r (s.rep a) op err val s.replies hrs) (λ_ _ _ _=>trivial) (λ_ q=>az [0,1] rfl q) λv H hp=>by
  obtain⟨v',_,rfl⟩:=hp;exact⟨_,λ_ q=>bi (p:=λa:Adr=>[ag r (RepT.cells ((dB s op err val).rep a)) 123,V.lg a.lg (dB s op err val).e,own a.rs (dB s op err val).replies.length (ints ((dB s op err val).replies.flatMap ReplyT.flat)) 37 3,DO a.vo (dB s op err val).vote,V.E (dB s op err val).e (dB s op err val).o]) {a with rs:=v'} (az [0,1,0,0,0] rfl q),rfl⟩
theorem qQ{δ:Type}(V:Env δ)(r:Nat)(s:MS δ)(y:RowT)(op:Int)[OkR V.toDk s][OkRow y]:
 DT 98 #[(.pointer (some ⟨r,0,none⟩)),(.iface V.T V.ov),(.agg (ints y.flat).toArray),(.int .i64 (op))] T0 [cC V r s] (RI (.int .i64 (eU V.toDk s y op).2) [cC V r (eU V.toDk s y op).1]):=by
 refine BD 34 Tryz.func98 rfl rfl rfl λw0 F hF=>sr λ_ J1=>XY (ints y.flat) λb6=>?_
 refine PS ?_;refine nx J1 (ab λ_ J2=>sr λ_ J3=>PS ?_);refine LW 0 dN aZ ah ?_;refine tp (kO RecT.zero (RecT.mk 0 0 y 0 BallotT.zero ChangeT.zero ViewT.zero) [(0,[Value.int .i64 0]),(2,ints y.flat)] iI eW (g:=RecT.sg)) ?_;refine CE vL (kQ V r s (kn y)) (SM [1]) ?_;refine PS ?_;refine nx J3 (sr λ_ J4=>P2 ?_);refine an ?_ ?_<;>intro h15;refine nx J4 (CY (sr λ_ J5=>P2 ?_));refine nx J5 (ai (ae (WK [0] (au rfl rfl ?_))));have e:eU V.toDk s y op=(ef V.toDk s (kn y),rN V.toDk s (kn y)):=if_pos h15;exact jt e;refine nx J4 (CN (qx J2 (sr λ_ J6=>P4 ?_)));refine LW 1 dN aZ ah ?_;refine P2 ?_;refine FA 9 bg aZ ?_;refine gD (vs:=ints y.flat) (i:=0) (aa rfl) rfl rfl rfl rfl rfl (by rw[(ah y)];exact aZ) (bu _) rfl rfl (λ_=>LC (cK _) (ah _)) (λa_=>(Od ((ef V.toDk s (kn y)).rep a_) 0 rfl (by have h1:=(ah y);omega) (cm ((ah (((ef V.toDk s (kn y)).rep a_).own)).trans (ah y).symm)))) (PS ?_);refine FA 1938 bg ka ?_;refine SK 0 ka (λ_=>cK _) ?_ (hc:=by exact λa_=>(NX _ rfl _));refine PS ?_;refine FA 1939 bg aP ?_;refine SK 0 aP (λ_=>cK _) ?_ (hc:=by exact λa_=>(NW _ rfl _));refine PS ?_;refine FA 1940 bg aP ?_;refine SK 0 aP (λ_=>cK _) ?_ (hc:=by exact λa_=>(RepT.set_waits _ rfl _));refine nx J6 (sr λ_ J7=>P2 ?_);refine CZ Hn (nh V r (tP (ef V.toDk s (kn y)) y op)) ID λvR=>?_
 refine nx J7 (sr λ_ J8=>PS ?_);refine nx J8 (ai (WK [0] (au rfl rfl ?_)));have e:eU V.toDk s y op=(fj V.toDk (tP (ef V.toDk s (kn y)) y op),0):=if_neg h15;exact jt e
theorem oG(x:RowT)(who:Int)(d:RowT):
 DT 152 #[(.agg (ints x.flat).toArray),(.int .i64 (who)),(.agg (ints d.flat).toArray)] T0 [] (RI (.tuple #[.agg (ints (dI x who d).1.flat).toArray, .int .i64 (dI x who d).2]) []):=by
 refine BD 68 Tryz.func152 rfl rfl rfl λw0 F hF=>sr λ_ J1=>XY (ints x.flat) λb3=>?_
 refine XY (ints d.flat) λb5=>?_
 refine XZ tk (ints RowT.zero.flat) λb6=>?_
 refine PS ?_;refine nx J1 (ab λ_ J2=>sr λ_ J3=>PS ?_);refine CE Eb (jP who) ID ?_;refine aW ?_ ?_<;>intro h11;have hw:cF who=true:=by simpa using h11
 have hw2:0≤who∧who<5:=of_decide_eq_true hw;refine PS ?_;refine nx J3 (CN (qx J2 (ab λ_ J4=>sr λ_ J5=>PS ?_)));refine FA 29 dN eQ ?_;refine IX (29+who.toNat) jz aP ?_;refine LT 2 Y3 (.int .i64 ((x.heir[who.toNat]'(by omega)))) ?_ (hc:=by exact qY x (who.toNat) (by omega) (by omega) (j0 x.heir (by omega)));refine PS ?_;refine an ?_ ?_<;>intro h18;refine nx J5 (CY (sr λ_ J6=>BV ((ints RowT.zero.flat).toArray) ?_));refine SW 0 aZ ah ?_;refine PS ?_;refine nx J6 (ai (ae (RT 0 [] dN aZ (ah _) ?_)));have e:dI x who d=(.zero,8):=by rw[dI,hw,fK,dif_pos hw,if_neg (by decide),if_pos h18]
 exact⟨by rw[e],rfl⟩;refine nx J5 (CN (qx J4 (ab λ_ J7=>D1 1 bh ?_)));refine PD 0 ?_;refine PD 1 ?_;refine FD 2 0 dN aP ?_;refine LR 3 Y3 (cB d rfl) ?_;refine ta 4 rfl (cg (r:=(fM (d.version+1))) rfl rfl rfl rfl) ?_;refine FD 5 1 dN ld ?_;refine ta 6 rfl (aM (vs:=ints (bL d.cells.toList)) rfl zW rfl ld rfl (λ_ h=>h.2.1) (dZ d.cells) (BY d 0 rfl (by decide) (whole (dZ d.cells)))) ?_;refine FD 7 29 dN eQ ?_;refine IY 8 (29+who.toNat) jz aP ?_;refine FD 10 34 dN Ao ?_;refine AL 9 ?_;refine bv (i:=2) (aa rfl) rfl rfl rfl rfl rfl aP rfl rfl (LB (ah _)) (RowT.st_heir x (who.toNat) (by omega) (by omega) (xO x.heir (by omega) _)) rfl (EN (IY 11 (34+who.toNat*28) JT ld ?_));refine AL 12 ?_;refine bF (vs:=ints (bL d.cells.toList)) (i:=2) (aa rfl) rfl rfl rfl rfl rfl (by rw[(dZ d.cells)];exact ld) (bu _) rfl rfl (LC (ah _) (dZ _)) (RowT.wr_left_ (RowT.mk x.version x.cells (x.heir.set who.toNat (fM (d.version+1)) (by omega)) x.left) (who.toNat*28) (by omega) (by have h1:=(dZ d.cells);omega) (tl sI x.left (i:=who.toNat) 0 (by omega) (by omega) (by have h1:=(dZ d.cells);omega) (cm ((dZ (x.left[who.toNat]'(by omega))).trans (dZ d.cells).symm)))) rfl (EN (DN (ac J7 (ab λ_ J8=>sr λ_ J9=>FA 29 dN eQ ?_))));refine tp (aM (vs:=ints d.heir.toList) rfl jz rfl eQ rfl (RO 1) (dP d.heir) (NR d 0 rfl (by decide) (whole (dP d.heir)))) ?_;refine PS ?_;refine nx J9 (aq ?_)
 refine bn (α:=(Nat)×(RowT)) (λ⟨k,y⟩=>k≤5∧y=nT x who d k) (λ⟨k,y⟩=>[(1,(.int .i64 (who))),(3,(.pointer (some ⟨b3,0,none⟩))),(5,(.pointer (some ⟨b5,0,none⟩))),(6,(.pointer (some ⟨b6,0,none⟩))),(7,(.int .i64 0)),(32,(.agg (ints d.heir.toList).toArray)),(33,(.int .i64 (((k:Nat):Int))))]) (λ⟨k,y⟩=>[ag b6 (ints RowT.zero.flat) 60,ag b5 (ints d.flat) 60,ag b3 (ints y.flat) 60]) (λ⟨k,y⟩=>5-k) (0,(RowT.mk x.version x.cells (x.heir.set who.toNat (fM (d.version+1)) (by omega)) (x.left.set who.toNat d.cells (by omega))))
  ⟨aN _,by rw[nT,od,dif_pos hw];rfl⟩ SB
  (λ_ s=>ak [0,0,0] rfl s) (λ⟨k,y⟩ hinv=>?_)
 obtain⟨hk,hy⟩:=hinv;refine sr λ_ J10=>PS ?_
 refine an ?_ ?_<;>intro h34;refine nx J10 (ab λ_ J11=>CY (qx J11 (ab λ_ J12=>aq (sr λ_ J13=>PS ?_))));refine tp (kE (cs:=ints d.heir.toList) (v:=Value.int .i64 (d.heir[k]'(by omega))) (r:=k) rfl jz Y3 rfl aP rfl rfl (by omega) (by omega) (by omega) (j0 d.heir (by omega))) ?_;refine P2 ?_;refine nx J13 (sr λ_ J14=>P3 ?_);refine an ?_ ?_<;>intro h39;refine P3 ?_;refine an ?_ ?_<;>intro h42;refine P3 ?_;refine FA 29 dN eQ ?_;refine IX (29+k) jz aP ?_;refine LT 2 Y3 (.int .i64 ((y.heir[k]'(by omega)))) ?_ (hc:=by exact qY y k (by omega) (by omega) (j0 y.heir (by omega)));refine PS ?_;refine an ?_ ?_<;>intro h49;refine PS ?_;refine nx J14 (CY (D1 1 bh ?_));refine PD 0 ?_;refine PD 1 ?_;refine PD 2 ?_;refine PD 3 ?_;refine FD 4 34 dN Ao ?_;refine IY 5 (34+k*28) JT ld ?_;refine ta 6 rfl (aM (vs:=ints (bL (d.left[k]'(by omega)).toList)) rfl zW rfl ld rfl (λ_ h=>h.2.1) (dZ (d.left[k]'(by omega))) (EA d (k*28) (by omega) (by omega) (kg sI d.left (i:=k) 0 (by omega) (by omega) (by decide) (whole (dZ (d.left[k]'(by omega))))))) ?_;refine FD 7 29 dN eQ ?_;refine IY 8 (29+k) jz aP ?_;refine FD 10 34 dN Ao ?_;refine AL 9 ?_;refine bv (i:=2) (aa rfl) rfl rfl rfl rfl rfl aP rfl rfl (LB (ah _)) (RowT.st_heir y k (by omega) (by omega) (xO y.heir (by omega) _)) rfl (EN (IY 11 (34+k*28) JT ld ?_));refine AL 12 ?_
 refine bF (vs:=ints (bL (d.left[k]'(by omega)).toList)) (i:=2) (aa rfl) rfl rfl rfl rfl rfl (by rw[(dZ (d.left[k]'(by omega)))];exact ld) (bu _) rfl rfl (LC (ah _) (dZ _)) (RowT.wr_left_ (RowT.mk y.version y.cells (y.heir.set k (d.heir[k]'(by omega)) (by omega)) y.left) (k*28) (by omega) (by have h1:=(dZ (d.left[k]'(by omega)));omega) (tl sI y.left (i:=k) 0 (by omega) (by omega) (by have h1:=(dZ (d.left[k]'(by omega)));omega) (cm ((dZ (y.left[k]'(by omega))).trans (dZ (d.left[k]'(by omega))).symm)))) rfl (EN (DN (af (ac J12 (ad (AD ?_))))));refine PS ?_;refine ap ?_
 exact aI ((k+1,(RowT.mk y.version y.cells (y.heir.set k (d.heir[k]'(by omega)) (by omega)) (y.left.set k (d.left[k]'(by omega)) (by omega)))):(Nat)×(RowT)) ⟨by omega,by rw[ou,←hy,m8,gk _ (by omega),gk _ (by omega),if_pos ⟨by omega,by omega,by omega⟩,Cr _ (by omega),FT _ (by omega)]⟩ (by show 5- (k+1)<5-k;omega)
  SB
  (λ_ s=>ak [0,0,0] rfl s)
 refine PS ?_;refine nx J14 (CN (aQ (af (ac J12 (ad (AD ?_))))));refine PS ?_;refine ap ?_
 exact aI ((k+1,y):(Nat)×(RowT)) ⟨by omega,by rw[ou,←hy,m8,gk _ (by omega),gk _ (by omega),if_neg (by omega)]⟩ (by show 5- (k+1)<5-k;omega)
  SB
  (λ_ s=>ak [0,0,0] rfl s)
 refine P2 ?_
 iterate 5 refine UF ?_
 refine PS ?_;refine nx J14 (CN (aQ (af (ac J12 (ad (AD ?_))))));refine PS ?_;refine ap ?_
 exact aI ((k+1,y):(Nat)×(RowT)) ⟨by omega,by rw[ou,←hy,m8,gk _ (by omega),gk _ (by omega),if_neg (by omega)]⟩ (by show 5- (k+1)<5-k;omega)
  SB
  (λ_ s=>ak [0,0,0] rfl s)
 refine PS ?_;refine UF ?_;refine UF ?_;refine P2 ?_
 iterate 5 refine UF ?_
 refine PS ?_;refine nx J14 (CN (aQ (af (ac J12 (ad (AD ?_))))));refine PS ?_;refine ap ?_
 exact aI ((k+1,y):(Nat)×(RowT)) ⟨by omega,by rw[ou,←hy,m8,gk _ (by omega),gk _ (by omega),if_neg (by omega)]⟩ (by show 5- (k+1)<5-k;omega)
  SB
  (λ_ s=>ak [0,0,0] rfl s)
 refine nx J10 (ab λ_ J15=>CN (aS (ay (ay (bj (ac J8 (sr λ_ J16=>FA 0 dN aP ?_)))))));refine LU 2 Y3 (cB y rfl) ?_;refine tp (cg (r:=(fM (y.version+1))) rfl rfl rfl rfl) ?_;refine FA 0 dN aP ?_;refine bv (i:=2) (aa rfl) rfl rfl rfl rfl rfl aP rfl rfl (LB (ah _)) (wQ y rfl _) rfl (nx J16 (sr λ_ J17=>LW 2 dN aZ ah ?_));refine SW 0 aZ ah ?_;refine PS ?_;refine nx J17 (ai (RT 0 [] dN aZ (ah _) ?_));obtain rfl:k=5:=by omega
 subst hy;have e:dI x who d=({nT x who d 5 with version:=fM ((nT x who d 5).version+1)},0):=by rw[dI,hw,fK,dif_pos hw,if_neg (by decide),if_neg h18]
 exact⟨by rw[e],rfl⟩;refine PS ?_;refine nx J3 (CY (sr λ_ J18=>BV ((ints RowT.zero.flat).toArray) ?_));refine SW 0 aZ ah ?_;refine PS ?_;refine nx J18 (ai (ae (RT 0 [] dN aZ (ah _) ?_)));have hw:cF who=false:=by simpa using h11
 have e:dI x who d=(.zero,5):=by rw[dI,hw];rfl
 exact⟨by rw[e],rfl⟩
theorem yq{δ:Type}(V:Env δ)(r:Nat)(s:MS δ)[OkR V.toDk s]:
 DT 150 #[(.pointer (some ⟨r,0,none⟩))] T0 [cC V r s] (c9 (λr' H=>∃u,r'=u∧H=[own u (bB s).length (ints (bB s)) 3 1,cC V r s])):=by
 refine BD 44 Tryz.func150 rfl rfl rfl λw0 F hF=>sr λ_ J1=>PS ?_
 refine nx J1 (sr λ_ J2=>PS ?_);refine nx J2 (ab λ_ J3=>sr λ_ J4=>PS ?_);refine nx J4 (aq ?_)
 refine bn (α:=(Nat)×(Value)) (λ⟨k,u⟩=>k≤5∧u.oneCell'=true) (λ⟨k,u⟩=>[(0,(.pointer (some ⟨r,0,none⟩))),(2,(.slice none 0 0)),(3,u),(7,(.int .i64 (((k:Nat):Int))))]) (λ⟨k,u⟩=>[own u ((gN s k).length) (ints (gN s k)) 3 1,cC V r s]) (λ⟨k,u⟩=>5-k) (0,(.slice none 0 0))
  ⟨aN _,rfl⟩ SB
  (λ_ s=>gy 3 1 (ak [0] rfl s)) (λ⟨k,u⟩ hinv=>?_)
 obtain⟨hk,hu⟩:=hinv;have hol:=F8 s k;refine sr λ_ J5=>PS ?_
 refine an ?_ ?_<;>intro h8;refine nx J5 (ab λ_ J6=>CY (qx J6 (ab λ_ J7=>aq (sr λ_ J8=>P2 ?_))));refine nx J8 (sr λ_ J9=>P2 ?_);refine FA 2 bg bc ?_;refine LZ 1 eE bc am s.view ?_ (hc:=by exact λ_=>cJ _);refine PS ?_;refine CE IH (p5 s.view ((k:Nat):Int) OkVw.rng) ID ?_;refine P3 ?_;refine aW ?_ ?_<;>intro h18;refine P2 ?_;refine nx J9 (sr λ_ J10=>?_)
 iterate 5 refine PS ?_
 refine FA 0 bg aP ?_;refine LG 1 Y3 (.int .i64 (s.id)) ?_ (hc:=by exact λa_=>(cx _ rfl));refine PS ?_;refine an ?_ ?_<;>intro h26
 iterate 5 refine PS ?_
 refine FA 9 bg aZ ?_;refine FA 38 dN eQ ?_;refine IX (38+k) jz aP ?_;refine LG 1 Y3 (.int .i64 ((s.own.heir[k]'(by omega)))) ?_ (hc:=by exact λa_=>(RepT.pt_own (s.rep a_) (29+k) (by omega) (by omega) (qY ((s.rep a_).own) k (by omega) (by omega) (j0 (((s.rep a_).own).heir) (by omega)))));refine PS ?_;refine an ?_ ?_<;>intro h36;refine PS ?_;refine nx J10 (CY (ad (P2 ?_)));refine aU (cells:=#[(.int .i64 (((k:Nat):Int)))]) (aa rfl) rfl rfl rfl jZ qO rfl rfl rfl (by as_aux_lemma=>kernel_rfl) (λb40=>cE (k:=1) (news:=[(.int .i64 (((k:Nat):Int)))]) (nn':=(gN s k).length+1) (xs':=ints (gN s k)++[(.int .i64 (((k:Nat):Int)))]) (aa rfl) rfl rfl rfl jZ qO rfl rfl rfl rfl rfl rfl (λ_ _=>jl rfl (RO 0) rfl) (by simp[Value.oneCell']) (by simp only[maxLen];omega) (by omega) (by simp) (by simp) (λv41 ov41=>PS ?_));refine ap (af (ac J7 (ad (AD ?_))));refine PS ?_;refine ap ?_
 exact aI ((k+1,v41):(Nat)×(Value)) ⟨by omega,ov41⟩ (by show 5- (k+1)<5-k;omega)
  SB
  (λ_ q=>by
   show bC [own v41 (gN s (k+1)).length (ints (gN s (k+1))) 3 1,cC V r s] _;rw[show gN s (k+1)=gN s k++[((k:Nat):Int)]by rw[oy,if_pos (KE h18 h26 (by rw[gk _ (by omega)];exact h36))],aj,eh]
   exact ak [1,1] rfl q)
 refine PS ?_;refine nx J10 (CN (aQ (af (ac J7 (ad (AD ?_))))));refine PS ?_;refine ap ?_
 exact aI ((k+1,u):(Nat)×(Value)) ⟨by omega,hu⟩ (by show 5- (k+1)<5-k;omega)
  SB
  (λ_ q=>by
   show bC [own u (gN s (k+1)).length (ints (gN s (k+1))) 3 1,cC V r s] _;rw[show gN s (k+1)=gN s k by rw[oy,if_neg (by intro hq;have h2:=zA hq;rw[gk _ (by omega)]at h2;first|omega| (simp_all;done)| (simp_all;omega)),bb]]
   exact ak [0,0] rfl q)
 refine P2 ?_
 iterate 8 refine UF ?_
 refine PS ?_;refine nx J10 (CN (aQ (af (ac J7 (ad (AD ?_))))));refine PS ?_;refine ap ?_
 exact aI ((k+1,u):(Nat)×(Value)) ⟨by omega,hu⟩ (by show 5- (k+1)<5-k;omega)
  SB
  (λ_ q=>by
   show bC [own u (gN s (k+1)).length (ints (gN s (k+1))) 3 1,cC V r s] _;rw[show gN s (k+1)=gN s k by rw[oy,if_neg (by intro hq;have h2:=zA hq;rw[gk _ (by omega)]at h2;first|omega| (simp_all;done)| (simp_all;omega)),bb]]
   exact ak [0,0] rfl q)
 refine P2 ?_;refine nx J9 (sr λ_ J11=>P2 ?_)
 iterate 6 refine UF ?_
 refine P2 ?_
 iterate 8 refine UF ?_
 refine PS ?_;refine nx J11 (CN (aQ (af (ac J7 (ad (AD ?_))))));refine PS ?_;refine ap ?_
 exact aI ((k+1,u):(Nat)×(Value)) ⟨by omega,hu⟩ (by show 5- (k+1)<5-k;omega)
  SB
  (λ_ q=>by
   show bC [own u (gN s (k+1)).length (ints (gN s (k+1))) 3 1,cC V r s] _;rw[show gN s (k+1)=gN s k by rw[oy,if_neg (by intro hq;have h2:=zA hq;rw[gk _ (by omega)]at h2;first|omega| (simp_all;done)| (simp_all;omega)),bb]]
   exact ak [0,0] rfl q)
 refine nx J5 (ab λ_ J12=>CN (aS (ay (ay (bj (ac J3 (sr λ_ J13=>P2 ?_)))))));refine nx J13 (ai (WK [0,0] (au rfl rfl ?_)));obtain rfl:k=5:=by omega
 exact⟨u,rfl,rfl⟩
theorem m4{δ:Type}(V:Env δ)(r:Nat)(s:MS δ)(who w:Int)(hm:cF who=true)(hw:0≤w∧w<5):
 DT 151 #[(.pointer (some ⟨r,0,none⟩)),(.int .i64 (who)),(.int .i64 (w))] T0 [cC V r s] (RI (.bool (uV s who w)) [cC V r s]):=by
 refine BD 17 Tryz.func151 rfl rfl rfl λw0 F hF=>?_
 have hm2:0≤who∧who<5:=of_decide_eq_true hm;refine sr λ_ J1=>PS ?_
 refine nx J1 (sr λ_ J2=>P3 ?_);refine FA 1943 bg eQ ?_;refine IX (1943+who.toNat) jz aP ?_;refine LG 0 Y3 (.int .i64 ((s.told[who.toNat]'(by omega)))) ?_ (hc:=by exact λa_=>(Oe (s.rep a_) (who.toNat) (by omega) (by omega) (j0 ((s.rep a_).told) (by omega))));refine PS ?_;refine tp (lD (r:=((s.told[who.toNat]'(by omega)).fdiv (2^min w.toNat IntKind.i64.bits))) rfl rfl rfl (by omega) rfl) ?_;refine tp (uu (r:=(((s.told[who.toNat]'(by omega)).fdiv (2^min w.toNat IntKind.i64.bits))%2)) rfl rfl rfl (mask (k:=1) (by decide) _)) ?_;refine P2 ?_;refine nx J2 (ai (WK [0] (au rfl rfl ?_)));exact⟨by rw[uV,qu,dif_pos hm],rfl⟩
theorem oA{δ:Type}(V:Env δ)(r:Nat)(s:MS δ)[OkR V.toDk s]:
    DT 107 #[(.pointer (some ⟨r,0,none⟩)),(.iface V.T V.ov)] T0 [cC V r s] (c9 (λ_ H=>H=[cC V r (mO V.toDk s)])):=by
 refine BD 80 Tryz.func107 rfl rfl rfl λw0 F hF=>sr λ_ J1=>PS ?_
 refine CR JD (yq V r s) ID λvR HR hR=>?_
 obtain⟨_,rfl,rfl⟩:=hR;revert vR;intro ud;refine kD 0 rfl rfl (λhlud houd=>PS ?_);refine nx J1 (ab λ_ J2=>sr λ_ J3=>P2 ?_);refine FA 1938 bg ka ?_;refine LG 1 Y4 (.bool (s.busy)) ?_ (hc:=by exact λa_=>(xB _ rfl));refine aW ?_ ?_<;>intro h19;refine PS ?_
 iterate 3 refine UT ?_
 refine PS ?_;refine nx J3 (CY (ai (ae (WK [1] (dz rfl ?_)))));exact congrArg (λq=>[cC V r q]) (show s=mO V.toDk s from(if_pos (by rw[h19];rfl)).symm);refine P2 ?_;refine tq (dX rfl jZ rfl hlud) ?_;refine PS ?_;refine an ?_ ?_<;>intro h23;refine PS ?_;refine nx J3 (CY (ai (ae (WK [1] (dz rfl ?_)))));exact congrArg (λq=>[cC V r q]) (show s=mO V.toDk s from(if_pos (by rw[h19,decide_eq_true (by omega)];rfl)).symm);refine PS ?_;refine nx J3 (CN (qx J2 (ab λ_ J4=>sr λ_ J5=>PS ?_)));refine tp (dX rfl jZ rfl hlud) ?_;refine PS ?_;refine nx J5 (aq ?_)
 refine bn (α:=(Nat)) (λk=>k≤(bB s).length∧∀j,j<k→∀w∈gE ((bB s).getD j 0),uV s ((bB s).getD j 0) w=true) (λk=>[(0,(.pointer (some ⟨r,0,none⟩))),(1,(.iface V.T V.ov)),(4,ud),(25,ud),(26,(.int .i64 ((((bB s).length:Nat):Int)))),(27,(.int .i64 (((k:Nat):Int))))]) (λk=>[own ud ((bB s).length) (ints (bB s)) 3 1,cC V r s]) (λk=>(bB s).length-k) 0
     ⟨aN _,λj h=>absurd h (by omega)⟩ SB
     (λ_ s=>s) (λk hinv=>?_)
 obtain⟨hk,hal⟩:=hinv;refine sr λ_ J6=>PS ?_
 refine an ?_ ?_<;>intro h28;refine nx J6 (ab λ_ J7=>CY (qx J7 (ab λ_ J8=>aq (sr λ_ J9=>?_))));have hmm1:(bB s).getD k 0∈bB s:=by rw[List.getD_eq_getElem?_getD,List.getElem?_eq_getElem (by omega)];exact eY _
 have hm1:cF ((bB s).getD k 0)=true:=(wu hmm1).1;have hn1:0≤(bB s).getD k 0∧(bB s).getD k 0<5:=of_decide_eq_true hm1;refine jJ 0 rfl rfl (by omega) (λge1 ce1 he1 _=>tp (bS (r:=k) he1 rfl jZ aP rfl rfl (by omega) (by omega) (by omega)) ?_);refine tp (cX (v:=(.int .i64 (((bB s).getD k 0)))) rfl Y3 rfl rfl (fU 0 rfl he1 rfl) (wi (by omega))) ?_;refine PS ?_;refine nx J9 (sr λ_ J10=>PS ?_);refine CR G4 (pX ((bB s).getD k 0) hm1) ID λvR HR hR=>?_
 obtain⟨_,rfl,rfl⟩:=hR;revert vR;intro uw;refine kD 0 rfl rfl (λhluw _=>jJ 0 rfl rfl (by omega) (λgw capw hvw hcapw=>tp (dX rfl jZ rfl hluw) ?_));refine PS ?_;refine nx J10 (aq (ra 2 (sr λ_ J11=>PS ?_)));refine nx J11 (ab λ_ J12=>CY (qx J12 (ab λ_ J13=>aq (sr λ_ J14=>tp (bS (r:=0) hvw rfl jZ aP rfl rfl (by omega) (by omega) rfl) ?_))));refine tp (cX (v:=(.int .i64 (((((bB s).getD k 0)+1)%5)))) rfl Y3 rfl rfl (fU 0 rfl hvw rfl) rfl) ?_;refine PS ?_;refine nx J14 (sr λ_ J15=>P3 ?_);refine CE Ed (m4 V r s ((bB s).getD k 0) ((((bB s).getD k 0)+1)%5) hm1 (by omega)) (SM [2]) ?_;refine aW ?_ ?_<;>intro h41;refine PS ?_;refine nx J15 (CN (aQ (af (ac J13 (ad (tp (cg (r:=1) rfl rfl rfl (by decide)) ?_))))));refine PS ?_;refine ap (ei (sr λ_ J16=>PS ?_));refine nx J16 (ab λ_ J17=>CY (qx J17 (ab λ_ J18=>aq (sr λ_ J19=>tp (bS (r:=1) hvw rfl jZ aP rfl rfl (by omega) (by omega) rfl) ?_))));refine tp (cX (v:=(.int .i64 (((((bB s).getD k 0)+2)%5)))) rfl Y3 rfl rfl (fU 1 rfl hvw rfl) rfl) ?_;refine PS ?_;refine nx J19 (sr λ_ J20=>P3 ?_);refine CE Ed (m4 V r s ((bB s).getD k 0) ((((bB s).getD k 0)+2)%5) hm1 (by omega)) ID ?_;refine aW ?_ ?_<;>intro h41;refine PS ?_;refine nx J20 (CN (aQ (af (ac J18 (ad (tp (cg (r:=2) rfl rfl rfl (by decide)) ?_))))));refine PS ?_;refine ap (ei (sr λ_ J21=>PS ?_));refine nx J21 (ab λ_ J22=>CN (aS (ay (ay (bj (af (ac J8 (ad (AD ?_)))))))));refine PS ?_
 refine ap ?_
 exact aI ((k+1):(Nat)) ⟨by omega,λj hj=>by
        by_cases q:j=k
        · subst q
          intro w hw;rw[gE,if_pos hm1]at hw;simp only[cn,List.not_mem_nil,or_false]at hw;rcases hw with rfl|rfl<;>assumption
        · exact hal j (by omega)⟩ (by show(bB s).length- (k+1)< (bB s).length-k;omega)
   SB
   (λ_ s=>ak [2,0] rfl s)
 refine PS ?_;refine nx J20 (CY (ai (aH (ae (ae (aH (aH (ae (ae (aH (ae ?_)))))))))));refine WK [0] (dz rfl ?_)
 have hb: ¬uz s=true:=λh=>by
   have h2:=List.all_eq_true.1 (List.all_eq_true.1 h _ hmm1) (((bB s).getD k 0+2)%5) (by rw[gE,if_pos hm1];simp);rw[h41]at h2;cases h2
 exact MQ (by rw[mO,if_neg (by rw[h19,decide_eq_false (by omega)];decide),if_neg hb]);refine PS ?_;refine nx J15 (CY (ai (aH (ae (ae (aH (aH (ae (ae (aH (ae ?_)))))))))));refine WK [0] (dz rfl ?_)
 have hb: ¬uz s=true:=λh=>by
   have h2:=List.all_eq_true.1 (List.all_eq_true.1 h _ hmm1) (((bB s).getD k 0+1)%5) (by rw[gE,if_pos hm1];simp);rw[h41]at h2;cases h2
 exact MQ (by rw[mO,if_neg (by rw[h19,decide_eq_false (by omega)];decide),if_neg hb]);refine nx J6 (ab λ_ J23=>CN (aS (ay (ay (bj (ac J4 (sr λ_ J24=>P2 ?_)))))));refine FA 9 bg aZ ?_;refine LZ 1 dN aZ ah s.own ?_ (hc:=by exact λ_=>BZ _);refine XZ tk (ints RowT.zero.flat) λb9=>?_
 refine SW 0 aZ ah ?_;refine nx J24 (ab λ_ J25=>sr λ_ J26=>PS ?_);refine tp (dX rfl jZ rfl hlud) ?_;refine PS ?_;refine nx J26 (aq ?_)
 refine bn (α:=(Nat)×(RowT)) (λ⟨q,y⟩=>q≤(bB s).length∧y=pH s ((bB s).take q)) (λ⟨q,y⟩=>[(0,(.pointer (some ⟨r,0,none⟩))),(1,(.iface V.T V.ov)),(4,ud),(9,(.pointer (some ⟨b9,0,none⟩))),(49,ud),(50,(.int .i64 ((((bB s).length:Nat):Int)))),(51,(.int .i64 (((q:Nat):Int))))]) (λ⟨q,y⟩=>[ag b9 (ints y.flat) 60,own ud ((bB s).length) (ints (bB s)) 3 1,cC V r s]) (λ⟨q,y⟩=>(bB s).length-q) (0,s.own)
     ⟨aN _,rfl⟩ SB
     (λ_ s=>ak [0,0,0] rfl s) (λ⟨q,y⟩ hinv=>?_)
 obtain⟨hq,hy⟩:=hinv;refine sr λ_ J27=>PS ?_
 refine an ?_ ?_<;>intro h52;refine nx J27 (ab λ_ J28=>CY (qx J28 (ab λ_ J29=>aq (sr λ_ J30=>?_))));have hmm2:(bB s).getD q 0∈bB s:=by rw[List.getD_eq_getElem?_getD,List.getElem?_eq_getElem (by omega)];exact eY _
 have hm2:cF ((bB s).getD q 0)=true:=(wu hmm2).1;have hn2:0≤(bB s).getD q 0∧(bB s).getD q 0<5:=of_decide_eq_true hm2;refine jJ 1 rfl rfl (by omega) (λge1 ce1 he1 _=>tp (bS (r:=q) he1 rfl jZ aP rfl rfl (by omega) (by omega) (by omega)) ?_);refine tp (cX (v:=(.int .i64 (((bB s).getD q 0)))) rfl Y3 rfl rfl (fU 1 rfl he1 rfl) (wi (by omega))) ?_;refine PS ?_;refine nx J30 (ab λ_ J31=>sr λ_ J32=>PS ?_);refine FA 29 dN eQ ?_;refine IX (29+(((bB s).getD q 0)).toNat) jz aP ?_;refine LT 0 Y3 (.int .i64 ((y.heir[(((bB s).getD q 0)).toNat]'(by omega)))) ?_ (hc:=by exact qY y ((((bB s).getD q 0)).toNat) (by omega) (by omega) (j0 y.heir (by omega)));refine PS ?_;refine an ?_ ?_<;>intro h59;refine nx J32 (CY (aS (ay (bj (ac J29 (ad (AD ?_)))))));refine PS ?_;refine ap ?_
 exact aI ((q+1,y):(Nat)×(RowT)) ⟨by omega,by rw[tO s (by omega),←hy,if_pos (by rw[fK,dif_pos hm2];exact h59)]⟩ (by show(bB s).length- (q+1)< (bB s).length-q;omega)
   SB
   (λ_ s=>ak [0,0,0] rfl s)
 refine nx J32 (CN (qx J31 (ab λ_ J33=>eV (α:=(Nat)) (λ_=>True) (λb12=>[(0,(.pointer (some ⟨r,0,none⟩))),(1,(.iface V.T V.ov)),(4,ud),(9,(.pointer (some ⟨b9,0,none⟩))),(12,(.pointer (some ⟨b12,0,none⟩))),(13,(.int .i64 ((dI y ((bB s).getD q 0) (s.last[(((bB s).getD q 0)).toNat]'(by omega))).2))),(49,ud),(50,(.int .i64 ((((bB s).length:Nat):Int)))),(51,(.int .i64 (((q:Nat):Int))))]) (λb12=>[ag b12 (ints ((dI y ((bB s).getD q 0) (s.last[(((bB s).getD q 0)).toNat]'(by omega))).1).flat) 60,ag b9 (ints y.flat) 60,own ud ((bB s).length) (ints (bB s)) 3 1,cC V r s]) (λb12 _=>?_) (λtl33=>?_))));refine ac J33 (ab λ_ J34=>sr λ_ J35=>P2 ?_);refine an ?_ ?_<;>intro h73
 · exact absurd (Kz hm2 (by rw[fK,dif_pos hm2];exact h59)) h73
 refine nx J35 (CN (qx J34 (ad (LW 0 dN aZ ah ?_))));refine SW 1 aZ ah ?_;refine ap (af (ac J29 (ad (AD ?_))));refine PS ?_;refine ap ?_
 exact aI ((q+1,(dI y ((bB s).getD q 0) (s.last[(((bB s).getD q 0)).toNat]'(by omega))).1):(Nat)×(RowT)) ⟨by omega,by rw[tO s (by omega),←hy,if_neg (by rw[fK,dif_pos hm2];exact h59),nl,dif_pos hm2]⟩ (by show(bB s).length- (q+1)< (bB s).length-q;omega)
   SB
   (λ_ s=>ak [1,1,1] rfl s)
 refine DC bh (BL 0) (cL 2 rfl rfl) ?_;refine LY 0 dN aZ ah ?_;refine PD 1 ?_;refine PD 2 ?_;refine PD 3 ?_;refine PD 4 ?_;refine FD 5 1948 bg sO ?_;refine IY 6 (1948+((((bB s).getD q 0)).toNat)*174) Gh aZ ?_;refine ta 7 rfl (fQ (vs:=ints (s.last[(((bB s).getD q 0)).toNat]'(by omega)).flat) rfl dN rfl aZ rfl (λ_ h=>h.2.2.1) (ah (s.last[(((bB s).getD q 0)).toNat]'(by omega))) (λa_=>(RepT.sub_last (s.rep a_) (((((bB s).getD q 0)).toNat)*174) (by omega) (by omega) (kg dp ((s.rep a_).last) (i:=(((bB s).getD q 0)).toNat) 0 (by omega) (by omega) (by decide) (whole (ah (((s.rep a_).last)[(((bB s).getD q 0)).toNat]'(by omega)))))))) ?_;refine cw [8,12] (by kernel_rfl) rfl (aE rfl ?_ ?_);refine CE JC (oG y ((bB s).getD q 0) (s.last[(((bB s).getD q 0)).toNat]'(by omega))) ID ?_;refine EN (PD 9 ?_);refine PD 10 ?_;refine PD 11 ?_;refine AL 12 ?_;refine XZ tk (ints RowT.zero.flat) λb12=>?_
 refine EN (AL 13 ?_);refine SW 0 aZ ah ?_;refine EN (PD 14 ?_);refine DN ?_
 exact aF
   SB
   (λ_ s=>s)
   (tl33 ((b12):(Nat)) trivial)
 refine aE rfl ?_ ?_;refine XZ tk (ints RowT.zero.flat) λb12=>?_
 refine EN (AL 8 ?_);refine CE JC (oG y ((bB s).getD q 0) (s.last[(((bB s).getD q 0)).toNat]'(by omega))) ID ?_;refine EN (PD 9 ?_);refine PD 10 ?_;refine PD 11 ?_;refine AL 13 ?_;refine SW 0 aZ ah ?_;refine EN (PD 14 ?_);refine DN ?_
 exact aF
   SB
   (λ_ s=>s)
   (tl33 ((b12):(Nat)) trivial)
 exact bw;refine nx J27 (ab λ_ J36=>CN (aS (ay (ay (bj (ac J25 (ad ?_)))))));have hoy:OkRow y:=by rw[hy];exact inferInstance
 refine P2 ?_;refine LW 0 dN aZ ah ?_;refine CE Ki (qQ V r s y 0) (SM [2]) ?_;refine ap (WK [0] (bz rfl ?_));obtain rfl:k=(bB s).length:=by omega
 obtain rfl:q=(bB s).length:=by omega
 have hb:uz s=true:=List.all_eq_true.2 λi hi=>List.all_eq_true.2 λw hw=>by
   obtain⟨j,hj,rfl⟩:=fa hi;have h2:=hal j (by omega) w;rw[List.getD_eq_getElem?_getD,List.getElem?_eq_getElem hj]at h2;exact h2 hw
 rw[hO]at hy;subst hy;exact MQ (by rw[mO,if_neg (by rw[h19,decide_eq_false (by omega)];decide),if_pos hb])
end Go.Proofs.YtjblgopghhgflaaGreat
end
