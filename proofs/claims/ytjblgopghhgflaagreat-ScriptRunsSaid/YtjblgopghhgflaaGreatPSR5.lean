/-
  Joined texts:what a statement's proof reaches.
-/
import Derived.Conc.LoneCalls
import Derived.Conc.LoneSelectN
import Derived.Test.YtjblgopghhgflaaGreatPSR4
set_option maxHeartbeats 8000000
set_option maxRecDepth 100000
set_option linter.unusedSimpArgs false
set_option linter.unusedVariables false
section
namespace Leg
open Go Codec Api
def WX(P:Program)(ops:Array Oper)(Q:QQ)(is:List Nat)(a:Act)(w:World):Prop:=
 ∀(b:Frame) (k:List Item) (cs:List Frame),∃e a' w',Q e a' w'∧Arrives P (lone (b.at a (.inRegion ops is::k)) cs w) b k cs e a' w'
theorem WX.nil{P:Program}{ops:Array Oper}{Q:QQ}{a:Act}{w:World}(h:Q .normal a w):WX P ops Q [] a w:=
 λ_ _ _=>⟨.normal,a,w,h, .one step_region_end⟩
theorem WX.region{P:Program}{id:Nat}{ops:Array Oper}{Q:QQ}{a:Act}{w:World}(h:WX P ops Q (List.range ops.size) a w):(Code.region id ops false).wp P Q a w:=
 λb k cs=>let ⟨e,a',w',q,r⟩:=h b k cs;⟨e,a',w',q, .of_steps (.one step_region) r⟩
section
variable {P:Program} {ops:Array Oper} {Q:QQ} {is:List Nat} {a:Act} {w:World} {i:Nat} {o:Oper}
theorem Dq(b:Frame)(k:List Item)(ho:ops[i]?=some o)(a:Act)(v:Value):(b.at a (.inRegion ops (i::is)::k)).finish v=b.at (a.put o.dst v) (.inRegion ops is::k):=by rw[Frame.finish_at,ho];rfl
theorem WX.value{v:Value}{w1:World}(ho:ops[i]?=some o)(hw:Region.wanted o (yielded ops a.tmps)=true)(hr:(execOp a.eval o).run P w= .ok (.value v) w1)(h:WX P ops Q is (a.put o.dst v) w1):WX P ops Q (i::is) a w:=λb k cs=>by
 obtain⟨e,a',w',q,r⟩:=h b k cs;refine⟨e,a',w',q, .of_steps (.one (step_lone_go ?_)) r⟩;rw[stepG_op ho hw,←Dq b k ho];simp[stepG.apply,hr]
theorem WX.comm{v:Value}{w1 w2:World}{cases:Array CommCase}{blocking:Bool}{shape:CommShape}(ho:ops[i]?=some o)(hw:Region.wanted o (yielded ops a.tmps)=true)(hr:(execOp a.eval o).run P w= .ok (.comm cases blocking shape) w1)
 (hs: ∀fr cs es,stepG P true (Conc.G fr cs) w= .comm (Conc.G fr cs) cases blocking shape w1 es→step P (Conc.solo (Conc.G fr cs) w)= .next (Conc.solo (Conc.G (fr.finish v) cs) w2)) (h:WX P ops Q is (a.put o.dst v) w2):WX P ops Q (i::is) a w:=λb k cs=>by
 obtain⟨e,a',w',q,r⟩:=h b k cs;have h1:=stepG_op (P:=P) (b:=b) (k:=k) (cs:=cs) (w:=w) (rest:=is) ho hw
 have h2: ∃es,stepG P true (Conc.G (b.at a (.inRegion ops (i::is)::k)) cs) w= .comm (Conc.G (b.at a (.inRegion ops (i::is)::k)) cs) cases blocking shape w1 es:=by
  unfold Conc.G;rw[h1];simp only[stepG.apply,Sem.runT_eq,hr];exact⟨_,rfl⟩
 obtain⟨es,h2⟩:=h2;have h3:=hs _ _ _ h2;rw[Dq b k ho]at h3;exact⟨e,a',w',q, .of_steps (.one h3) r⟩
abbrev Jj:= @WX.comm
end
end Leg
namespace Leg
open Go Codec Api
section
variable (P:Program) (w0:World) (F:Hl) (n:Nat)
def TX(ops:Array Oper)(Q:QQ)(is:List Nat)(D:List Deferred)(L:List (Nat×Value))(H:List HP):Prop:=∀a w,Fr n D L a→Same w0 w→Sat H F w→WX P ops Q is a w
end
section
variable {P:Program} {w0:World} {F:Hl} {n:Nat} {ops:Array Oper} {Q:QQ} {is:List Nat} {D:List Deferred} {L:List (Nat×Value)} {H:List HP} {i d:Nat} {o:Oper}
theorem TC.regionX{id:Nat}{l:List Oper}(h:TX P w0 F n l.toArray Q (List.range l.length) D L H):TC P w0 F n (.region id l.toArray false) Q D L H:=
 λa w f s m=>WX.region (by simpa using h a w f s m)
abbrev wQ:= @TC.regionX
theorem TX.nil(h:TE w0 F n Q .normal D L H):TX P w0 F n ops Q [] D L H:=λa w f s m=>WX.nil (h a w f s m)
abbrev HT:= @TX.nil
theorem TX.v{v:Value}(ho:ops[i]?=some o)(hw:Want n D ops o L)(hd:o.dst=some d)(hn:Nat.blt d n=true)(h1:PV P n D L (Sat H F) o v)(h:TX P w0 F n ops Q is D ((d,v)::L) H):TX P w0 F n ops Q (i::is) D L H:=λa w f s m=>by
 refine WX.value ho (hw a f) (h1 a w f m) ?_;rw[hd];exact h _ _ (f.put (lb hn) _) s m
abbrev rK:= @TX.v
end
end Leg
namespace Leg
open Go Codec Api Go.Conc
section
variable {P:Program} {w0:World} {F:Hl} {n:Nat} {ops:Array Oper} {Q:QQ} {is:List Nat} {D:List Deferred} {L:List (Nat×Value)} {H:List HP} {i d:Nat} {o:Oper}
theorem Sat.chan{w:World}{c cap s r:Nat}{vs:List Value}(m:Sat H F w)(k:Nat)(hk:Nat.blt k H.length=true)(e:H.getD k (λ_=>True)=dO c cap vs s r):w.heap[c]?=some (.chan cap vs.toArray false s r false):=by
 obtain⟨h,d,e',x⟩:=m;obtain⟨h1,h2,d',rfl,a,_⟩:=en k (lb hk) x;rw[e]at a
 have:hp w c=some (.chan cap vs.toArray false s r false):=by
  rw[e',iD];exact fR (by rw[show h1=sg c _ from a];simp[sg])
 exact this
theorem Sat.setChan{w:World}{c cap s r s' r':Nat}{vs vs':List Value}(m:Sat H F w)(k:Nat)(hk:Nat.blt k H.length=true)(e:H.getD k (λ_=>True)=dO c cap vs s r):Sat (H.set k (dO c cap vs' s' r')) F (w.setChan c cap vs'.toArray false s' r' false):=by
 have hc:=m.chan k hk e
 have hlt:c<w.heap.size:=by
  by_cases q:c<w.heap.size
  · exact q
  · rw[Array.getElem?_eq_none (by omega)]at hc;cases hc
 exact m.write k (lb hk) e (heap_setChan w c cap vs'.toArray false s' r' false hlt) (λj hj=>by simp[World.setChan,Array.getElem?_setIfInBounds,Ne.symm hj])
theorem Same.setChan{w w':World}(s:Same w w')(c cap:Nat)(b:Array Value)(cl:Bool)(x y:Nat)(t:Bool):Same w (w'.setChan c cap b cl x y t):=s.trans ⟨rfl,rfl,rfl,by simp[World.setChan]⟩
theorem qZ{x:Operand}{so:Option Operand}{e:TypeId}{z:Value}{blocking:Bool}(ho:o.op= .select #[⟨x,so,e⟩] blocking)(hz:(P.info? e).map (·.zero)=some (some z))(ev:Operand→Value)(w:World):
 (execOp ev o).run P w= .ok (.comm #[{chan:=ev x,send:=so.map ev,zero:=z}] blocking .select) w:=by
 simp[execOp,ho,Sem.run_bind,m3 hz]
theorem TX.sendRoom{x y:Operand}{e c cap s r:Nat}{z v:Value}{vs:List Value}(k:Nat)(ho:ops[i]?=some o)(hw:Want n D ops o L)(hop:o.op= .select #[⟨x,some y,e⟩] false)(hd:o.dst=some d)(hn:Nat.blt d n=true)(hz:(P.info? e).map (·.zero)=some (some z))
 (hx:cI L x=some (.chan (some c))) (hy:cI L y=some v) (hk:Nat.blt k H.length=true) (hH:H.getD k (λ_=>True)=dO c cap vs s r) (hroom:vs.length<cap)
 (h:TX P w0 F n ops Q is D ((d, .tuple #[.int .i64 0, .bool false])::L) (H.set k (dO c cap (vs++[v]) (s+1) r))):TX P w0 F n ops Q (i::is) D L H:=λa w f sm m=>by
 have hc:=m.chan k hk hH;have hr:=qZ (P:=P) hop hz a.eval w;rw[f.eval hx]at hr;simp only[Option.map_some,f.eval hy]at hr;refine Jj (v:= .tuple #[.int .i64 0, .bool false]) (w2:=w.setChan c cap (vs++[v]).toArray false (s+1) r false) ho (hw a f) hr (λfr cs es hs=>?_) ?_
 · have:=step_lone_sel_send_room (k:=0) hs rfl (λj c' hj hjc=>by cases j with|zero=>exact absurd rfl hj|succ j=>simp at hjc) hc (by simpa using hroom)
   rw[this];simp[commResult,goInt]
 · rw[hd]
   exact h _ _ (f.put (lb hn) _) (sm.setChan ..) (m.setChan k hk hH)
theorem TX.sendFull{x y:Operand}{e c cap s r:Nat}{z v:Value}{vs:List Value}(k:Nat)(ho:ops[i]?=some o)(hw:Want n D ops o L)(hop:o.op= .select #[⟨x,some y,e⟩] false)(hd:o.dst=some d)(hn:Nat.blt d n=true)(hz:(P.info? e).map (·.zero)=some (some z))
 (hx:cI L x=some (.chan (some c))) (hy:cI L y=some v) (hk:Nat.blt k H.length=true) (hH:H.getD k (λ_=>True)=dO c cap vs s r) (hfull:cap≤vs.length)
 (h:TX P w0 F n ops Q is D ((d, .tuple #[.int .i64 (-1), .bool false])::L) H):TX P w0 F n ops Q (i::is) D L H:=λa w f sm m=>by
 have hc:=m.chan k hk hH;have hr:=qZ (P:=P) hop hz a.eval w;rw[f.eval hx]at hr;simp only[Option.map_some,f.eval hy]at hr;refine Jj (v:= .tuple #[.int .i64 (-1), .bool false]) (w2:=w) ho (hw a f) hr (λfr cs es hs=>?_) ?_
 · have:=step_lone_sel_default hs (λcc hcc=>by
    obtain rfl:cc=scase c v z:=by simpa [scase]using hcc
    exact noWay_send hc (by simpa using hfull))
   rw[this];simp[commResult,goInt]
 · rw[hd]
   exact h _ _ (f.put (lb hn) _) sm m
theorem TX.recvBuf{x:Operand}{e c cap s r:Nat}{z v:Value}{vs:List Value}(k:Nat)(ho:ops[i]?=some o)(hw:Want n D ops o L)(hop:o.op= .select #[⟨x,none,e⟩] false)(hd:o.dst=some d)(hn:Nat.blt d n=true)(hz:(P.info? e).map (·.zero)=some (some z))
 (hx:cI L x=some (.chan (some c))) (hk:Nat.blt k H.length=true) (hH:H.getD k (λ_=>True)=dO c cap (v::vs) s r)
 (h:TX P w0 F n ops Q is D ((d, .tuple #[.int .i64 0, .bool true,v])::L) (H.set k (dO c cap vs s (r+1)))):TX P w0 F n ops Q (i::is) D L H:=λa w f sm m=>by
 have hc:=m.chan k hk hH;have hr:=qZ (P:=P) hop hz a.eval w;rw[f.eval hx]at hr;simp only[Option.map_none]at hr;refine Jj (v:= .tuple #[.int .i64 0, .bool true,v]) (w2:=w.setChan c cap vs.toArray false s (r+1) false) ho (hw a f) hr (λfr cs es hs=>?_) ?_
 · have:=step_lone_sel_recv_buf (k:=0) hs rfl (λj c' hj hjc=>by cases j with|zero=>exact absurd rfl hj|succ j=>simp at hjc) hc (by simp)
   rw[this];simp[commResult,goInt]
 · rw[hd]
   exact h _ _ (f.put (lb hn) _) (sm.setChan ..) (m.setChan k hk hH)
theorem TX.recvNone{x:Operand}{e c cap s r:Nat}{z:Value}(k:Nat)(ho:ops[i]?=some o)(hw:Want n D ops o L)(hop:o.op= .select #[⟨x,none,e⟩] false)(hd:o.dst=some d)(hn:Nat.blt d n=true)(hz:(P.info? e).map (·.zero)=some (some z))
 (hx:cI L x=some (.chan (some c))) (hk:Nat.blt k H.length=true) (hH:H.getD k (λ_=>True)=dO c cap [] s r)
 (h:TX P w0 F n ops Q is D ((d, .tuple #[.int .i64 (-1), .bool false,z])::L) H):TX P w0 F n ops Q (i::is) D L H:=λa w f sm m=>by
 have hc:=m.chan k hk hH;have hr:=qZ (P:=P) hop hz a.eval w;rw[f.eval hx]at hr;simp only[Option.map_none]at hr;refine Jj (v:= .tuple #[.int .i64 (-1), .bool false,z]) (w2:=w) ho (hw a f) hr (λfr cs es hs=>?_) ?_
 · have:=step_lone_sel_default hs (λcc hcc=>by
    obtain rfl:cc=rcase c z:=by simpa [rcase]using hcc
    exact noWay_recv hc)
   rw[this];simp[commResult,goInt]
 · rw[hd]
   exact h _ _ (f.put (lb hn) _) sm m
end
end Leg
namespace Leg
open Go Codec Api Go.Conc
section
variable {P:Program} {w0:World} {F:Hl} {n:Nat} {ops:Array Oper} {Q:QQ} {D:List Deferred} {L:List (Nat×Value)} {H:List HP} {d:Nat} {o:Oper}
theorem PV.lenChan{t e:TypeId}{dir:ChanDir}{x:Operand}{c cap s r:Nat}{vs:List Value}(k:Nat)(ho:o.op= .call {callee:= .builtin .len,args:=#[x],argTypes:=#[t]})(ht:P.underlying t=some (.chan dir e))(hx:cI L x=some (.chan (some c)))
 (hk:Nat.blt k H.length=true) (hH:H.getD k (λ_=>True)=dO c cap vs s r):PV P n D L (Sat H F) o (.int .i64 ((vs.length:Nat):Int)):=λa w f m=>by
 have hl:=Conc.run_len_chan (P:=P) (w:=w) (dir:=dir) (e:=e) t o.type ht (m.chan k hk hH);simp[execOp,ho,resolve,f.eval hx,invoke,builtin,hl,goInt]
theorem PV.capChan{t e:TypeId}{dir:ChanDir}{x:Operand}{c cap s r:Nat}{vs:List Value}(k:Nat)(ho:o.op= .call {callee:= .builtin .cap,args:=#[x],argTypes:=#[t]})(ht:P.underlying t=some (.chan dir e))(hx:cI L x=some (.chan (some c)))
 (hk:Nat.blt k H.length=true) (hH:H.getD k (λ_=>True)=dO c cap vs s r):PV P n D L (Sat H F) o (.int .i64 ((cap:Nat):Int)):=λa w f m=>by
 have hl:=Conc.run_cap_chan (P:=P) (w:=w) (dir:=dir) (e:=e) t o.type ht (m.chan k hk hH);simp[execOp,ho,resolve,f.eval hx,invoke,builtin,hl,goInt]
end
abbrev gm(T U b:Nat)(ls:List (List UInt8)):HP:=pack (λq:Nat×List Value×Nat×Nat=>[ak b [.chan (some q.1)] T,dO q.1 8 q.2.1 q.2.2.1 q.2.2.2,ee q.2.1 ls U])
def pU(T U:Nat)(bs:List Nat)(W:List (List (List UInt8)))(k:Nat):HP:=if k%6=0 then(λ_=>True)else gm T U (bs.getD k 0) (W.getD k [])
def oi(T U:Nat)(bs:List Nat)(W:List (List (List UInt8))):List HP:=(List.range 25).map (pU T U bs W)
def ek(T U:Nat)(bs:List Nat)(W:List (List (List UInt8))):HP:=bI (oi T U bs W)
def fa(T U:Nat)(bs:List Nat)(W:List (List (List UInt8)))(k:Nat):HP:=bI ((oi T U bs W).eraseIdx k)
def dm(bs:List Nat):List Value:=(List.range 25).map λk=>if k%6=0 then .pointer none else .pointer (some ⟨bs.getD k 0,0,none⟩)
theorem z0(bs:List Nat){k:Nat}(h:k<25):(dm bs)[k]?=some (if k%6=0 then .pointer none else .pointer (some ⟨bs.getD k 0,0,none⟩)):=by unfold dm;simp[h]
theorem xr(bs:List Nat):(dm bs).length=25:=by simp[dm]
abbrev eb(NT T U n:Nat)(W:List (List (List UInt8))):HP:=pack (λbs:List Nat=>[ak n (dm bs) NT,ek T U bs W])
section
variable {T U:Nat} {bs:List Nat} {W:List (List (List UInt8))} {k:Nat} {H:List HP} {h:Hl}
theorem AW:(oi T U bs W).length=25:=by simp[oi]
theorem vM(hk:k<25)(s:bI (ek T U bs W::H) h):bI (pU T U bs W k::fa T U bs W k::H) h:=by
 have s1:bI (oi T U bs W++H) h:=(bX _ _).2 s;have e:(oi T U bs W).getD k (λ_=>True)=pU T U bs W k:=by simp[oi,List.getD_eq_getElem?_getD,hk]
 have p:=l5 (λ_=>True) (oi T U bs W) k (by rw[AW];exact hk);rw[e]at p;have s2:=dS (p.append_right H) s1;exact cy s2 (λ_ a=>a) λ_ b=>(bX _ _).1 b
theorem th{W':List (List (List UInt8))}(hk:k<25)(hW: ∀j,j≠k→W'.getD j []=W.getD j [])(s:bI (pU T U bs W' k::fa T U bs W k::H) h):bI (ek T U bs W'::H) h:=by
 have e0:(oi T U bs W').eraseIdx k=(oi T U bs W).eraseIdx k:=by
  refine List.ext_getElem? λj=>?_
  rw[List.getElem?_eraseIdx,List.getElem?_eraseIdx]
  have: ∀i,i≠k→(oi T U bs W')[i]?=(oi T U bs W)[i]?:=λi hi=>by
   simp only[oi,List.getElem?_map];cases q:(List.range 25)[i]?with
   |none=>rfl
   |some m=>
    have hm:m=i:=by
     by_cases hi25:i<25
     · simp[hi25]at q;exact q.symm
     · simp[hi25]at q
    subst hm;simp only[Option.map_some,pU,hW m hi]
  split
  · exact this j (by omega)
  · exact this (j+1) (by omega)
 have e:(oi T U bs W').getD k (λ_=>True)=pU T U bs W' k:=by simp[oi,List.getD_eq_getElem?_getD,hk]
 have p:=l5 (λ_=>True) (oi T U bs W') k (by rw[AW];exact hk);rw[e,e0]at p;have s2:bI ((pU T U bs W' k::(oi T U bs W).eraseIdx k)++H) h:=cy s (λ_ a=>a) λ_ b=>(bX _ _).2 b
 exact(bX _ _).1 (dS (p.symm.append_right H) s2)
end
def bp(from' to':Int):Nat:=from'.toNat*5+to'.toNat
def gp(w:Int):Bool:=decide (0≤w∧w<5)
theorem G3{f t:Int}(hf:gp f=true)(ht:gp t=true):bp f t<25:=by
 have h1:0≤f∧f<5:=of_decide_eq_true hf;have h2:0≤t∧t<5:=of_decide_eq_true ht;unfold bp;omega
theorem rX{f t:Int}(hf:gp f=true)(ht:gp t=true):bp f t%6=0↔f=t:=by
 have h1:0≤f∧f<5:=of_decide_eq_true hf;have h2:0≤t∧t<5:=of_decide_eq_true ht;unfold bp;omega
end Leg
end

section
namespace Wal
open Go Leg Codec Api Dsk
end Wal
namespace Leg
open Go Codec Api
end Leg
namespace Leg
open Go Codec Api
theorem pB{us:List Value}{ls:List (List UInt8)}{e:Nat}{H:List HP}{F:Hl}{w:World}(i:Nat)(hi:Nat.blt i H.length=true)(hH:H.getD i (λ_=>True)=ee us ls e)(m:Sat H F w):us.length=ls.length∧∀u∈us,u.oneCell'=true:=by
 obtain⟨h,d,e',x⟩:=m;obtain⟨h1,h2,d',rfl,a,_⟩:=en i (lb hi) x;rw[hH]at a;refine⟨a.1,λu hu=>?_⟩;obtain⟨j,hj,rfl⟩:=eW hu;obtain⟨u,e1,k1,k2,dk,rfl,a3⟩:=vL us ls e _ a.1 a.2 j (by rw[←a.1];exact hj);rw[List.getElem?_eq_getElem hj]at e1;injection e1 with e1
 rw[e1];exact(zy a3 (λb o q=>q):IsB u _ k1).one
section
variable {P:Program} {n:Nat} {D:List Deferred} {L:List (Nat×Value)} {S:World→Prop} {o:Oper}
end
end Leg
namespace Wal
open Go Leg Codec Api Dsk
end Wal
namespace Leg
open Go Codec Api
section
variable {P:Program} {n:Nat} {D:List Deferred} {L:List (Nat×Value)} {S:World→Prop} {o:Oper}
end
theorem E4{us:List Value}{ls:List (List UInt8)}{e:Nat}{u:Value}{l:List UInt8}{H:List HP}{h:Hl}(s:bI (ee (u::us) (l::ls) e::H) h):bI (gg u l e::ee us ls e::H) h:=by
 obtain⟨h1,h2,d,rfl,⟨hl,a⟩,b⟩:=s;obtain⟨g1,g2,d',rfl,a1,a2⟩:=a;exact lY.1 ⟨_,h2,d,rfl,⟨g1,g2,d',rfl,a1,⟨by simpa using hl,a2⟩⟩,b⟩
def yx(ls:List (List UInt8))(bs:List UInt8):List (List UInt8):=if ls.length<8 then ls++[bs]else ls
def dw(f t:Int):Bool:=gp f&&gp t&& !decide (f=t)
def nN(W:List (List (List UInt8)))(f t:Int)(bs:List UInt8):List (List (List UInt8)):=if dw f t then W.set (bp f t) (yx (W.getD (bp f t) []) bs)else W
theorem gT{f t:Int}(h:dw f t=true):bp f t<25∧¬bp f t%6=0:=by
 unfold dw at h;rw[ax,ax]at h;refine⟨G3 h.1.1 h.1.2,λq=>?_⟩;have:=(rX h.1.1 h.1.2).1 q;rw[this]at h;simp at h
theorem pC{T U:Nat}{bs:List Nat}{W:List (List (List UInt8))}{k:Nat}(h: ¬k%6=0):pU T U bs W k=gm T U (bs.getD k 0) (W.getD k []):=by unfold pU;rw[if_neg h]
theorem mU{T U:Nat}{bs:List Nat}{W:List (List (List UInt8))}{f t:Int}(hv:dw f t=true){H:List HP}{h:Hl}(s:bI (ek T U bs W::H) h):bI (gm T U (bs.getD (bp f t) 0) (W.getD (bp f t) [])::fa T U bs W (bp f t)::H) h:=by
 obtain⟨h1,h2⟩:=gT hv;have:=vM h1 s
 rwa [pC h2]at this
theorem rW{T U:Nat}{bs:List Nat}{W:List (List (List UInt8))}{f t:Int}{ls:List (List UInt8)}(hv:dw f t=true)(hW:W.length=25){H:List HP}{h:Hl}(s:bI (gm T U (bs.getD (bp f t) 0) ls::fa T U bs W (bp f t)::H) h):bI (ek T U bs (W.set (bp f t) ls)::H) h:=by
 obtain⟨h1,h2⟩:=gT hv;refine th (W:=W) h1 (λj hj=>?_) ?_
 · rw[List.getD_eq_getElem?_getD,List.getD_eq_getElem?_getD,List.getElem?_set_ne (λe=>hj e.symm)]
 · rw[pC h2,show(W.set (bp f t) ls).getD (bp f t) []=ls by rw[List.getD_eq_getElem?_getD,List.getElem?_set_self (by omega)];rfl]
   exact s
end Leg
namespace Leg
open Go Codec Api
def b8(w:Int):UInt8:=Wal.r8 w
theorem tP(w:Int):IntKind.u8.wrap w=(((b8 w).toNat:Nat):Int):=Wal.r8_wrap w
end Leg
end

section
namespace Go.Proofs.YtjblgopghhgflaaGreat
open Go Leg Codec Api Dsk Wal
theorem rI(b c s r:Nat)(us:List Value)(ls:List (List UInt8)):
 DT 100 #[(.pointer (some ⟨b,0,none⟩))] T0 [ak b [(.chan (some c))] 208,dO c 8 (us) (s) (r),ee (us) (ls) 5] (RI (.int .i64 ((ls.length:Nat):Int)) [ak b [(.chan (some c))] 208,dO c 8 (us) (s) (r),ee (us) (ls) 5]):=by
 refine BD 8 Tryz.func100 rfl rfl rfl λw0 F hF=>sr λ_ J1=>PS ?_
 refine nx J1 (sr λ_ J2=>wP (p:=us.length=ls.length) (λw m=>(pB 2 rfl rfl m).1) (λhul=>P2 ?_));refine FA 0 AX sL ?_;refine LA 0 tC ?_;refine tp (PV.lenChan 1 rfl tC rfl rfl rfl) ?_;refine PS ?_;refine nx J2 (ai (WK [0,0,0] (ap rfl rfl ?_)));exact⟨by rw[hul],rfl⟩
theorem iJ(b:Nat)(ls:List (List UInt8)):DT 100 #[.pointer (some ⟨b,0,none⟩)] T0 [gm 208 5 b ls] (RI (.int .i64 ((ls.length:Nat):Int)) [gm 208 5 b ls]):=
 Leg.Does.pack (B:=[]) λq=>Leg.Does.fold (rI b q.1 q.2.2.1 q.2.2.2 q.2.1 ls) λe H hp=>by
  cases e with
  |returned v=>
   obtain⟨rfl,rfl⟩:=hp;exact⟨_,λ_ s=>bm (p:=λq:Nat×List Value×Nat×Nat=>[ak b [.chan (some q.1)] 208,dO q.1 8 q.2.1 q.2.2.1 q.2.2.2,ee q.2.1 ls 5]) (H:=[]) q s,rfl,rfl⟩
  |panicked c=>exact hp.elim
  |outgrown=>exact hp.elim
theorem y6(b c s r:Nat)(us:List Value)(ls:List (List UInt8))(x:Value)(bs:List UInt8)(hb:bs.length≤1000000):
 DT 138 #[(.pointer (some ⟨b,0,none⟩)),x] (IsW x bs) [ak b [(.chan (some c))] 208,dO c 8 (us) (s) (r),ee (us) (ls) 5] (dG (λv H=>(ls.length<8∧v= .bool true∧∃u,H=[ak b [(.chan (some c))] 208,dO c 8 (us++[u]) (s+1) r,ee us ls 5,dE u bs 5])∨(¬ls.length<8∧v= .bool false∧H=[ak b [(.chan (some c))] 208,dO c 8 (us) (s) (r),ee (us) (ls) 5]))):=by
 refine Leg.Does.body (vs:=[(.pointer (some ⟨b,0,none⟩)),x]) (n:=15) Tryz.func138 rfl rfl rfl (λw0 F hF=>?_);refine sr λ_ J1=>?_
 refine ot ?_;refine nx J1 ?_;refine aa λ_ J2=>?_
 refine sr λ_ J3=>?_
 refine wP (p:=us.length=ls.length) (λw m=>(pB 2 rfl rfl m).1) (λhul=>?_);refine mv ?_;refine tp (fD rfl rfl) ?_;refine tp (a9 (r:=0) rfl AX rfl sL rfl rfl) ?_;refine tp (gH (v:=(.chan (some c))) rfl tC rfl rfl (eN 0 rfl rfl) rfl) ?_;refine nx J3 ?_;refine ae ?_;refine A1 (ab rfl) rfl rfl rfl fq jh (λv9=>?_);change TL _ _ _ _ _ _ _ _ _ [dE v9 ([]) 5,ak b [(.chan (some c))] 208,dO c 8 (us) (s) (r),ee (us) (ls) 5];refine mv ?_;refine co (k:=0) (news:=ef (bs)) (nn':=(bs:List UInt8).length) (xs':=ef (bs)) (ab rfl) rfl rfl rfl fq wG rfl rfl rfl rfl rfl rfl (λ_ _=>hF.src (λ_ h=>eP h)) (eR _) (by simp only[maxLen,az];omega) (by simp only[az];omega) (by simp) (cb _) (λv11 ov11=>?_);change TL _ _ _ _ _ _ _ _ _ [dE v11 (bs) 5,ak b [(.chan (some c))] 208,dO c 8 (us) (s) (r),ee (us) (ls) 5];refine nx J2 ?_;refine aa λ_ J4=>?_
 refine wQ ?_;change TX _ _ _ _ _ _ [0,1,2] _ _ _
 by_cases hroom:us.length<8
 refine TX.sendRoom 2 rfl (ab rfl) rfl rfl rfl Jh rfl rfl rfl rfl hroom ?_;change TX _ _ _ _ _ _ _ _ _ [dE v11 (bs) 5,ak b [(.chan (some c))] 208,dO c 8 (us++[v11]) (s+1) (r),ee (us) (ls) 5];refine rK rfl (ab rfl) rfl rfl (kZ (vs:=[(.int .i64 0),(.bool false)]) rfl rfl rfl) ?_;refine rK rfl (ab rfl) rfl rfl (KX rfl rfl rfl) ?_;refine HT ?_;refine ac J4 ?_;refine aq ?_;refine mu rfl ?_;refine sr λ_ J5=>?_
 refine ot ?_;refine nx J5 ?_;refine ai ?_;refine aH ?_;refine aD (dK _) (λ_ s=>aj [1,1,1,0] rfl s) ?_;refine ap rfl rfl ?_;exact Or.inl ⟨by omega,rfl,_,rfl⟩;refine TX.sendFull 2 rfl (ab rfl) rfl rfl rfl Jh rfl rfl rfl rfl (by omega) ?_;refine rK rfl (ab rfl) rfl rfl (kZ (vs:=[(.int .i64 (-1)),(.bool false)]) rfl rfl rfl) ?_;refine rK rfl (ab rfl) rfl rfl (KX rfl rfl rfl) ?_;refine HT ?_;refine ac J4 ?_;refine aq ?_;refine Ds rfl ?_;refine sr λ_ J6=>?_
 refine ot ?_;refine nx J6 ?_;refine ai ?_;refine aH ?_;refine aD (dK _) (λ_ s=>aj [1,1,1] rfl s) ?_;refine ap rfl rfl ?_;exact Or.inr ⟨by omega,rfl,rfl⟩
theorem tj(b:Nat)(ls:List (List UInt8))(x:Value)(bs:List UInt8)(hb:bs.length≤1000000):DT 138 #[.pointer (some ⟨b,0,none⟩),x] (IsW x bs) [gm 208 5 b ls] (RI (.bool (decide (ls.length<8))) [gm 208 5 b (yx ls bs)]):=
 Leg.Does.pack (B:=[]) λq=>Leg.Does.fold (y6 b q.1 q.2.2.1 q.2.2.2 q.2.1 ls x bs hb) λe H hp=>by
  cases e with
  |returned v=>
   unfold yx;rcases hp with⟨h8,rfl,u,rfl⟩| ⟨h8,rfl,rfl⟩
   · refine⟨[gm 208 5 b (ls++[bs])],λ_ s=>?_,by rw[decide_eq_true h8],by rw[if_pos h8]⟩
     have s1:=yi 3 rfl rfl s;have s2:=aA [2,2] rfl s1;have s3:=sH s2;exact bm (p:=λq:Nat×List Value×Nat×Nat=>[ak b [.chan (some q.1)] 208,dO q.1 8 q.2.1 q.2.2.1 q.2.2.2,ee q.2.1 (ls++[bs]) 5]) (H:=[]) (q.1,q.2.1++[u],q.2.2.1+1,q.2.2.2) (aA [1,1,0] rfl s3)
   · exact⟨[gm 208 5 b ls],λ_ s=>bm (p:=λq:Nat×List Value×Nat×Nat=>[ak b [.chan (some q.1)] 208,dO q.1 8 q.2.1 q.2.2.1 q.2.2.2,ee q.2.1 ls 5]) (H:=[]) q s,by rw[decide_eq_false h8],by rw[if_neg h8]⟩
  |panicked c=>exact hp.elim
  |outgrown=>exact hp.elim
theorem wN(b c s r:Nat)(us:List Value)(ls:List (List UInt8)):
 DT 139 #[(.pointer (some ⟨b,0,none⟩))] T0 [ak b [(.chan (some c))] 208,dO c 8 (us) (s) (r),ee (us) (ls) 5] (dG (λv H=>(ls=[]∧v= .tuple #[.slice none 0 0, .bool false]∧H=[ak b [(.chan (some c))] 208,dO c 8 [] s r,ee [] ls 5])∨(∃u us' f ls',ls=f::ls'∧v= .tuple #[u, .bool true]∧H=[ak b [(.chan (some c))] 208,dO c 8 us' s (r+1),ee (u::us') (f::ls') 5]))):=by
 refine BD 14 Tryz.func139 rfl rfl rfl λw0 F hF=>sr λ_ J1=>P2 ?_
 refine nx J1 (sr λ_ J2=>wP (p:=us.length=ls.length) (λw m=>(pB 2 rfl rfl m).1) (λhul=>P2 ?_));refine FA 0 AX sL ?_;refine LA 0 tC ?_;refine nx J2 (aa λ_ J3=>wQ ?_);rcases us with _| ⟨u,us⟩
 refine TX.recvNone 1 rfl (ab rfl) rfl rfl rfl Jh rfl rfl rfl (rK rfl (ab rfl) rfl rfl (kZ (vs:=[(.int .i64 (-1)),(.bool false),(.slice none 0 0)]) rfl rfl rfl) (rK rfl (ab rfl) rfl rfl (KX rfl rfl rfl) (HT (ac J3 (aq (CN (sr λ_ J4=>P2 ?_)))))));exact nx J4 (ai (aH (WK [0,0,0] (hX rfl rfl rfl (Or.inl ⟨List.eq_nil_of_length_eq_zero hul.symm,rfl,rfl⟩)))));rcases ls with _| ⟨f,ls⟩
 · cases hul
 refine TX.recvBuf 1 rfl (ab rfl) rfl rfl rfl Jh rfl rfl rfl (rK rfl (ab rfl) rfl rfl (kZ (vs:=[(.int .i64 0),(.bool true),u]) rfl rfl rfl) (rK rfl (ab rfl) rfl rfl (KX rfl rfl rfl) (HT (ac J3 (aq (CY (sr λ_ J5=>P2 ?_)))))));refine nx J5 (sr λ_ J6=>P3 ?_);exact nx J6 (ai (aH (WK [0,0,0] (hX rfl rfl rfl (Or.inr ⟨u,us,f,ls,rfl,rfl,rfl⟩)))))
theorem rH(b:Nat)(ls:List (List UInt8)):DT 139 #[.pointer (some ⟨b,0,none⟩)] T0 [gm 208 5 b ls] (dG (λv H=>(ls=[]∧v= .tuple #[.slice none 0 0, .bool false]∧H=[gm 208 5 b []])∨(∃u f ls',ls=f::ls'∧v= .tuple #[u, .bool true]∧H=[gm 208 5 b ls',gg u f 5]))):=
 Leg.Does.pack (B:=[]) λq=>Leg.Does.fold (wN b q.1 q.2.2.1 q.2.2.2 q.2.1 ls) λe H hp=>by
  cases e with
  |returned v=>
   rcases hp with⟨rfl,rfl,rfl⟩| ⟨u,us',f,ls',rfl,rfl,rfl⟩
   · exact⟨[gm 208 5 b []],λ_ s=>bm (p:=λq:Nat×List Value×Nat×Nat=>[ak b [.chan (some q.1)] 208,dO q.1 8 q.2.1 q.2.2.1 q.2.2.2,ee q.2.1 [] 5]) (H:=[]) (q.1,[],q.2.2.1,q.2.2.2) s,Or.inl ⟨rfl,rfl,rfl⟩⟩
   · refine⟨[gm 208 5 b ls',gg u f 5],λ_ s=>?_,Or.inr ⟨u,f,ls',rfl,rfl,rfl⟩⟩
     have s1:=aA [2] rfl s;have s2:=E4 s1;exact bm (p:=λq:Nat×List Value×Nat×Nat=>[ak b [.chan (some q.1)] 208,dO q.1 8 q.2.1 q.2.2.1 q.2.2.2,ee q.2.1 ls' 5]) (H:=[gg u f 5]) (q.1,us',q.2.2.1,q.2.2.2+1) (aA [2,2,1,0] rfl s2)
  |panicked c=>exact hp.elim
  |outgrown=>exact hp.elim
theorem y7:
 DT 91 #[(.int .i64 8)] T0 [] (dG (λv H=>∃b c,v= .pointer (some ⟨b,0,none⟩)∧H=[ak b [(.chan (some c))] 208,dO c 8 [] 0 0])):=by
 refine BD 9 Tryz.func91 rfl rfl rfl λw0 F hF=>sr λ_ J1=>PS ?_
 refine nx J1 (sr λ_ J2=>PS ?_);refine tp (GQ (v':=(.int .i64 8)) (wX rfl rfl rfl) rfl) ?_;refine tp (GQ (v':=(.int .i64 8)) (PV.minI rfl rfl rfl) rfl) ?_;refine TL.makeChan (k:=8) (bytes:=24) (ab rfl) rfl rfl rfl tC (by kernel_rfl) rfl (by omega) (by omega) (λc6=>BV #[(.chan (some c6))] ?_);refine XB λb8=>?_
 refine PS ?_;exact nx J2 (ai (WK [0,0] (ap rfl rfl ⟨b8,c6,rfl,rfl⟩)))
theorem AV:DT 91 #[.int .i64 8] T0 [] (dG (λv H=>∃b,v= .pointer (some ⟨b,0,none⟩)∧H=[gm 208 5 b []])):=
 Leg.Does.fold y7 λe H hp=>by
  cases e with
  |returned v=>
   obtain⟨b,c,rfl,rfl⟩:=hp;exact⟨[gm 208 5 b []],λ_ s=>bm (p:=λq:Nat×List Value×Nat×Nat=>[ak b [.chan (some q.1)] 208,dO q.1 8 q.2.1 q.2.2.1 q.2.2.2,ee q.2.1 [] 5]) (H:=[]) (c,[],0,0) (aA [1,1,0] rfl (xT s)),b,rfl,rfl⟩
  |panicked c=>exact hp.elim
  |outgrown=>exact hp.elim
theorem n7(w:Int):
 DT 137 #[(.int .i64 (w))] T0 [] (RI (.bool (gp w)) []):=by
 refine BD 9 Tryz.func137 rfl rfl rfl λw0 F hF=>sr λ_ J1=>PS ?_
 refine nx J1 (sr λ_ J2=>P2 ?_);refine ao ?_ ?_<;>intro h4
 iterate 5 refine PS ?_
 refine nx J2 (ai (WK [] (ap rfl rfl ?_)));exact⟨congrArg Value.bool (by unfold gp;simp only[decide_eq_decide];omega),rfl⟩;refine PS ?_;refine UF ?_;refine UF ?_;refine P2 ?_;refine nx J2 (ai (WK [] (ap rfl rfl ?_)));exact⟨congrArg Value.bool (by unfold gp;symm;exact decide_eq_false (by omega)),rfl⟩
theorem lS(n:Nat)(bs:List Nat)(from' to':Int):
 DT 99 #[(.pointer (some ⟨n,0,none⟩)),(.int .i64 (from')),(.int .i64 (to'))] T0 [ak n (dm bs) 156] (dG (λv H=>((dw from' to'=true∧v= .pointer (some ⟨(bs.getD (bp from' to') 0),0,none⟩))∨(dw from' to'=false∧v= .pointer none))∧H=[ak n (dm bs) 156])):=by
 refine BD 23 Tryz.func99 rfl rfl rfl λw0 F hF=>sr λ_ J1=>PS ?_
 refine nx J1 (aa λ_ J2=>sr λ_ J3=>PS ?_);refine CE If (n7 from') ID ?_;refine aX ?_ ?_<;>intro h8;have hf:0≤from'∧from'<5:=of_decide_eq_true h8
 refine PS ?_;refine P2 ?_;refine CE If (n7 to') ID ?_;refine aX ?_ ?_<;>intro h12;have ht:0≤to'∧to'<5:=of_decide_eq_true h12;refine PS ?_;refine PS ?_;refine nx J3 (CN (qx J2 (sr λ_ J4=>P4 ?_)));refine FA 0 Tryz.underlying156 Cy ?_;refine IX (((from').toNat)*5) HO zx ?_;refine IX (((from').toNat)*5+(to').toNat) GL Cz ?_;refine LT 0 vX (if bp from' to'%6=0 then .pointer none else .pointer (some ⟨(bs.getD (bp from' to') 0),0,none⟩)) ?_ (hc:=by exact z0 bs (k:=bp from' to') (by unfold bp;omega));refine PS ?_;refine nx J4 (ai (WK [0] (ap rfl rfl ⟨?_,rfl⟩)))
 by_cases hd:from'=to'
 · rw[if_pos ((rX h8 h12).2 hd)]
   exact Or.inr ⟨by unfold dw;rw[decide_eq_true hd];simp,rfl⟩
 · rw[if_neg (λq=>hd ((rX h8 h12).1 q))]
   exact Or.inl ⟨by unfold dw;rw[h8,h12,decide_eq_false hd];rfl,rfl⟩
 refine PS ?_;refine PS ?_;refine nx J3 (CY (sr λ_ J5=>PS ?_));refine nx J5 (ai (ad (WK [0] (ap rfl rfl ?_))));exact⟨Or.inr ⟨by unfold dw;rw[h12];simp,rfl⟩,rfl⟩;refine PS ?_;refine PS ?_
 iterate 3 refine UT ?_
 refine PS ?_;refine nx J3 (CY (sr λ_ J6=>PS ?_));refine nx J6 (ai (ad (WK [0] (ap rfl rfl ?_))));exact⟨Or.inr ⟨by unfold dw;rw[h8];simp,rfl⟩,rfl⟩
def ri(W:List (List (List UInt8)))(f t:Int):Bool:=dw f t&&decide ((W.getD (bp f t) []).length<8)
theorem wz(n:Nat)(bs:List Nat)(W:List (List (List UInt8)))(from' to':Int)(x:Value)(by':List UInt8)(hb:by'.length≤1000000)(hW:W.length=25):
 DT 202 #[(.pointer (some ⟨n,0,none⟩)),(.int .i64 (from')),(.int .i64 (to')),x] (IsW x by') [ak n (dm bs) 156,ek 208 5 bs W] (RI (.bool (ri W from' to')) [ak n (dm bs) 156,ek 208 5 bs (nN W from' to' by')]):=by
 refine BD 21 Tryz.func202 rfl rfl rfl λw0 F hF=>sr λ_ J1=>PS ?_
 refine nx J1 (sr λ_ J2=>P3 ?_);refine CR BJ (lS n bs from' to') ID λvR HR hR=>?_
 obtain⟨hw,rfl⟩:=hR;rcases hw with⟨hv,rfl⟩| ⟨hv,rfl⟩
 refine PS ?_;refine nx J2 (sr λ_ J3=>PS ?_);refine tp (iM rfl vX rfl rfl) ?_;refine P3 ?_;refine cn (H':=[gm 208 5 (bs.getD (bp from' to') 0) (W.getD (bp from' to') []),fa 208 5 bs W (bp from' to'),ak n (dm bs) 156]) (λ_ s=>mU hv (aA [1] rfl s)) (CF F2 (tj (bs.getD (bp from' to') 0) (W.getD (bp from' to') []) x by' hb) ID (λ_ d _=>K8 hF d) ?_);refine P2 ?_;refine nx J3 (ai (aD (H':=[ak n (dm bs) 156,ek 208 5 bs (nN W from' to' by')]) (dK _) (λ_ s=>by unfold nN;rw[if_pos hv];exact aA [1,0] rfl (rW hv hW (aA [0,0,0] rfl s))) (ap rfl rfl ?_)));exact⟨by unfold ri;rw[hv];rfl,rfl⟩;refine PS ?_;refine nx J2 (sr λ_ J4=>PS ?_);refine tp (iq rfl vX rfl rfl) ?_;refine PS ?_
 iterate 3 refine UF ?_
 refine P2 ?_;refine nx J4 (ai (WK [0,0] (ap rfl rfl ?_)));exact⟨by unfold ri;rw[hv];rfl,by unfold nN;rw[hv];rfl⟩
theorem yE(n:Nat)(W:List (List (List UInt8)))(from' to':Int)(x:Value)(by':List UInt8)(hb:by'.length≤1000000)(hW:W.length=25):DT 202 #[.pointer (some ⟨n,0,none⟩), .int .i64 from', .int .i64 to',x] (IsW x by') [eb 156 208 5 n W] (RI (.bool (ri W from' to')) [eb 156 208 5 n (nN W from' to' by')]):=
 Leg.Does.pack (B:=[]) λbs=>Leg.Does.fold (wz n bs W from' to' x by' hb hW) λe H hp=>by
  cases e with
  |returned v=>
   obtain⟨rfl,rfl⟩:=hp;exact⟨_,λ_ s=>bm (p:=λbs:List Nat=>[ak n (dm bs) 156,ek 208 5 bs (nN W from' to' by')]) (H:=[]) bs s,rfl,rfl⟩
  |panicked c=>exact hp.elim
  |outgrown=>exact hp.elim
def iG(f t:Int)(bs:List UInt8):List UInt8:=oR ([b8 f,b8 t]++bs)
theorem B3(from' to':Int)(x:Value)(by':List UInt8)(hb:by'.length≤100000):
 DT 52 #[(.int .i64 (from')),(.int .i64 (to')),x] (IsW x by') [] (dG (λv H=>∃u,v=u∧H=[dE u (iG from' to' by') 5])):=by
 refine BD 23 Tryz.func52 rfl rfl rfl λw0 F hF=>sr λ_ J1=>PS ?_
 refine nx J1 (sr λ_ J2=>PS ?_);refine tp (cY rfl fq rfl hF.len) ?_;refine AD ?_;refine TL.makeB (0) (2+by'.length) (ab rfl) rfl rfl rfl fq wG rfl rfl rfl (by omega) (by omega) (by omega) (λb11=>cn (H':=[dE (.slice (some ⟨b11,0,none⟩) 0 (2+by'.length)) ([]) 5]) (λ_ s=>CG 0 rfl rfl (by omega) (by simp only[maxLen];omega) (by simp[ef]) rfl s) (PS ?_));refine nx J2 (sr λ_ J3=>P2 ?_);refine tp (cx (r:=(((b8 from').toNat:Nat):Int)) rfl Y3 Y5 rfl (tP _)) ?_;refine PS ?_;refine tp (cx (r:=(((b8 to').toNat:Nat):Int)) rfl Y3 Y5 rfl (tP _)) ?_;refine aP (cells:=#[(.int .u8 ((((b8 from').toNat:Nat):Int))),(.int .u8 ((((b8 to').toNat:Nat):Int)))]) (ab rfl) rfl rfl rfl fq wG rfl rfl rfl (by as_aux_lemma=>kernel_rfl) (λb17=>co (k:=1) (news:=ef ([(b8 from'),(b8 to')])) (nn':=([(b8 from'),(b8 to')]:List UInt8).length) (xs':=ef ([(b8 from'),(b8 to')])) (ab rfl) rfl rfl rfl fq wG rfl rfl rfl rfl rfl rfl (λ_ _=>gJ rfl (RO 0) rfl) (eR [(b8 from'),(b8 to')]) (by simp only[maxLen,az,aw];omega) (by simp only[az,aw];omega) (by simp<;>omega) (cb _) (λv18 ov18=>PS ?_));refine nx J3 (sr λ_ J4=>P2 ?_)
 refine co (k:=1) (news:=ef (by')) (nn':=([(b8 from'),(b8 to')]++by':List UInt8).length) (xs':=ef ([(b8 from'),(b8 to')]++by')) (ab rfl) rfl rfl rfl fq wG rfl rfl rfl rfl rfl rfl (λ_ _=>hF.src (λ_ h=>eP h)) (eR _) (by simp only[maxLen,af,aw,az];omega) (by simp only[af,aw,az];omega) (by simp<;>omega) (iu _ _).symm (λv21 ov21=>CQ JM (sN v21 ([(b8 from'),(b8 to')]++by') (by simp only[af,aw,az];omega)) ID (λg d s=>GT (tL 1 rfl rfl g d s)) λvR HR hR=>?_);have hR:=hR;subst hR;refine PS ?_;exact nx J4 (ai (WK [0] (ap rfl rfl ⟨_,rfl,rfl⟩)))
theorem qk(f t:Int)(bs:List UInt8):(iG f t bs).length=bs.length+6:=by
 unfold iG;rw[jZ];simp only[af,aw,az];omega
theorem wE(n:Nat)(W:List (List (List UInt8)))(from' to':Int)(x:Value)(by':List UInt8)(hb:by'.length≤3000)(hW:W.length=25):
 DT 204 #[(.pointer (some ⟨n,0,none⟩)),(.int .i64 (from')),(.int .i64 (to')),x] (IsW x by') [eb 156 208 5 n (W)] (RI (.bool (ri W from' to')) [eb 156 208 5 n (nN W from' to' (iG from' to' by'))]):=by
 refine BD 24 Tryz.func204 rfl rfl rfl λw0 F hF=>?_
 have hfl:(iG from' to' by').length≤1000000:=by rw[qk];omega
 refine sr λ_ J1=>PS ?_
 refine nx J1 (aa λ_ J2=>sr λ_ J3=>PS ?_);refine tp (lq rfl GK rfl rfl) ?_;refine P2 ?_;refine tq (cY rfl fq rfl hF.len) ?_;refine PS ?_;refine ao ?_ ?_<;>intro h14
 · exact absurd h14 (by omega)
 refine PS ?_;refine nx J3 (CN (qx J2 (sr λ_ J4=>?_)))
 iterate 6 refine PS ?_
 refine CQ LS (B3 from' to' x by' (by omega)) ID (λ_ d _=>K8 hF d) λvR HR hR=>?_
 obtain⟨_,rfl,rfl⟩:=hR;revert vR;intro uf;refine CF Kb (yE n W from' to' uf (iG from' to' by') hfl hW) (SM [1]) (λg d s=>GT (tL 0 rfl rfl g d s)) ?_;refine PS ?_;exact nx J4 (ai (WK [0] (ap rfl rfl ⟨rfl,rfl⟩)))
theorem wF(from' to':Int)(x:Value)(by':List UInt8)(h0:0<by'.length)(hb:by'.length≤100000):
 DT 140 #[(.int .i64 (from')),(.int .i64 (to')),x] (IsW x (iG from' to' by')) [] (dG (λv H=>∃u,v= .tuple #[u, .bool true]∧H=[gg u by' 5])):=by
 refine BD 40 Tryz.func140 rfl rfl rfl λw0 F hF=>?_
 have hfl:(iG from' to' by').length≤1000000000:=by rw[qk];omega
 refine sr λ_ J1=>P2 ?_
 refine nx J1 (sr λ_ J2=>PS ?_);refine CQ H6 (xc x (iG from' to' by') hfl) ID (λ_ d _=>K8 hF d) λvR HR hR=>?_
 rcases hR with⟨ht',_,_⟩| ⟨t,u,ht',rfl,rfl⟩
 · exact absurd ht' (by unfold iG;rw[p1];simp)
 obtain rfl:t=([b8 from',b8 to']++by'):=by unfold iG at ht';rw[p1]at ht';exact(cN ht').symm
 refine gG 0 rfl rfl (by simp) (λg cap hv hcap=>?_);have hv2:u= .slice (some ⟨g,0,none⟩) (by'.length+2) cap:=hv;refine P4 ?_;refine PS ?_;refine nx J2 (aa λ_ J3=>sr λ_ J4=>PS ?_);refine PS ?_;refine P2 ?_;refine tq (cY rfl fq rfl (by rw[hv2];exact⟨_,_,rfl⟩)) ?_;refine PS ?_;refine ao ?_ ?_<;>intro h20
 · exact absurd h20 (by omega)
 refine P3 ?_;refine tq (a8 (r:=0) hv2 rfl fq jh rfl rfl (by omega) (by omega) rfl) ?_;refine tq (bT (v:=(.int .u8 ((((b8 from').toNat:Nat):Int)))) rfl Y5 rfl rfl (eM 0 rfl hv rfl) (pX (l:=([b8 from',b8 to']++by')) (j:=0) (by simp))) ?_;refine PS ?_;refine tq (cx (r:=(((b8 from').toNat:Nat):Int)) rfl Y3 Y5 rfl (tP _)) ?_;refine PS ?_;refine ao ?_ ?_<;>intro h28
 · exact absurd rfl h28
 refine P3 ?_;refine tq (a8 (r:=1) hv2 rfl fq jh rfl rfl (by omega) (by omega) rfl) ?_;refine tq (bT (v:=(.int .u8 ((((b8 to').toNat:Nat):Int)))) rfl Y5 rfl rfl (eM 0 rfl hv rfl) (pX (l:=([b8 from',b8 to']++by')) (j:=1) (by simp))) ?_;refine PS ?_;refine tq (cx (r:=(((b8 to').toNat:Nat):Int)) rfl Y3 Y5 rfl (tP _)) ?_;refine PS ?_;refine ao ?_ ?_<;>intro h36
 · exact absurd rfl h36
 refine PS ?_;refine nx J4 (CN (qx J3 (sr λ_ J5=>PS ?_)));refine tp (GQ (PV.sliceL (a:=some ⟨g,0,none⟩) (len:=by'.length+2) (cap:=cap) (lo:=2) rfl fq jh (by rw[←hv2];rfl) rfl rfl (by omega)) (congrArg (λq=>jr q 2 (by'.length+2)) hv2.symm)) ?_;refine P2 ?_;exact nx J5 (ai (aD (H':=[gg (jr u 2 (by'.length+2)) by' 5]) (dK _) (λ_ s=>uD 0 rfl rfl hv (by omega) (by simp) (by simp;omega) (by simp) s) (hX rfl rfl rfl ⟨_,rfl,rfl⟩)))
theorem vl(n:Nat)(bs:List Nat)(W:List (List (List UInt8)))(from' to':Int)(by':List UInt8)(ls:List (List UInt8))(hv:dw from' to'=true)(hW:W.length=25)(hk:W.getD (bp from' to') []=iG from' to' by'::ls)(h0:0<by'.length)(hb:by'.length≤100000):
 DT 103 #[(.pointer (some ⟨n,0,none⟩)),(.int .i64 (from')),(.int .i64 (to'))] T0 [ak n (dm bs) 156,ek 208 5 bs (W)] (dG (λv H=>∃u,v= .tuple #[u, .bool true]∧H=[ak n (dm bs) 156,ek 208 5 bs (W.set (bp from' to') ls),gg u by' 5])):=by
 refine BD 32 Tryz.func103 rfl rfl rfl λw0 F hF=>sr λ_ J1=>P2 ?_
 refine nx J1 (aa λ_ J2=>sr λ_ J3=>PS ?_);refine tp (lq rfl GK rfl rfl) ?_;refine nx J3 (CN (qx J2 (sr λ_ J4=>P3 ?_)));refine CR BJ (lS n bs from' to') ID λvR HR hR=>?_
 obtain⟨hw,rfl⟩:=hR;obtain⟨_,rfl⟩:dw from' to'=true∧vR= .pointer (some ⟨(bs.getD (bp from' to') 0),0,none⟩):=hw.resolve_right (λq=>by rw[hv]at q;cases q.1)
 refine PS ?_;refine nx J4 (aa λ_ J5=>sr λ_ J6=>PS ?_);refine tp (lq rfl vX rfl rfl) ?_;refine nx J6 (CN (qx J5 (sr λ_ J7=>PS ?_)));refine cn (H':=[gm 208 5 (bs.getD (bp from' to') 0) (W.getD (bp from' to') []),fa 208 5 bs W (bp from' to'),ak n (dm bs) 156]) (λ_ s=>mU hv (aA [1] rfl s)) (CR Ie (rH (bs.getD (bp from' to') 0) (W.getD (bp from' to') [])) ID λvR HR hR=>?_);rcases hR with⟨he,_,_⟩| ⟨u,f,ls',he,rfl,rfl⟩
 · rw[he]at hk;cases hk
 rw[hk]at he;obtain⟨rfl,rfl⟩:=List.cons.inj he;refine P4 ?_;refine PS ?_;refine nx J7 (aa λ_ J8=>sr λ_ J9=>PS ?_);refine PS ?_;refine nx J9 (CN (qx J8 (sr λ_ J10=>P3 ?_)));refine CQ Kz (wF from' to' u by' h0 hb) ID (λg d s=>GT (yM 1 rfl rfl g d s)) λvR HR hR=>?_
 obtain⟨uv,rfl,rfl⟩:=hR;refine P4 ?_;exact nx J10 (ai (aD (H':=[ak n (dm bs) 156,ek 208 5 bs (W.set (bp from' to') ls),gg uv by' 5]) (dK _) (λ_ s=>aA [1,0] rfl (rW hv hW (aj [1,2,2,0] rfl s))) (hX rfl rfl rfl ⟨_,rfl,rfl⟩)))
theorem pP(n:Nat)(W:List (List (List UInt8)))(from' to':Int)(by':List UInt8)(ls:List (List UInt8))(hv:dw from' to'=true)(hW:W.length=25)(hk:W.getD (bp from' to') []=iG from' to' by'::ls)(h0:0<by'.length)(hb:by'.length≤100000):DT 103 #[.pointer (some ⟨n,0,none⟩), .int .i64 from', .int .i64 to'] T0 [eb 156 208 5 n W] (dG (λv H=>∃u,v= .tuple #[u, .bool true]∧H=[eb 156 208 5 n (W.set (bp from' to') ls),gg u by' 5])):=
 Leg.Does.pack (B:=[]) λbs=>Leg.Does.fold (vl n bs W from' to' by' ls hv hW hk h0 hb) λe H hp=>by
  cases e with
  |returned v=>
   obtain⟨u,rfl,rfl⟩:=hp;exact⟨[eb 156 208 5 n (W.set (bp from' to') ls),gg u by' 5],λ_ s=>bm (p:=λbs:List Nat=>[ak n (dm bs) 156,ek 208 5 bs (W.set (bp from' to') ls)]) (H:=[gg u by' 5]) bs s,u,rfl,rfl⟩
  |panicked c=>exact hp.elim
  |outgrown=>exact hp.elim
end Go.Proofs.YtjblgopghhgflaaGreat
end

section
namespace Leg
open Go Codec Api
section
variable {P:Program} {n:Nat} {D:List Deferred} {L:List (Nat×Value)} {S:World→Prop} {o:Oper}
theorem PV.ptrNeIf{c:Prop}[Decidable c]{t t':TypeId}{x y:Operand}{a:Addr}(ho:o.op= .binOp .neq t x y t')(ht:P.underlying t=some (.pointer (P.pointee t)))(hx:cI L x=some (if c then .pointer none else .pointer (some a)))(hy:cI L y=some (.pointer none)):PV P n D L S o (.bool (!decide c)):=by
 by_cases h:c
 · rw[if_pos h]at hx;rw[decide_eq_true h];exact iq ho ht hx hy
 · rw[if_neg h]at hx;rw[decide_eq_false h];exact iM ho ht hx hy
end
abbrev FR(bs:List Nat)(k:Nat):Value:=if k%6=0 then .pointer none else .pointer (some ⟨bs.getD k 0,0,none⟩)
def q7(bs:List Nat)(i:Nat):List Value:=(List.range 5).map λj=>FR bs (i*5+j)
theorem m4(bs:List Nat)(i:Nat):(q7 bs i).length=5:=by simp[q7]
theorem FI(bs:List Nat)(i:Nat): ∀v∈q7 bs i,v.oneCell'=true:=by
 intro v hv;simp only[q7,eC]at hv;obtain⟨j,_,rfl⟩:=hv;show(if _ then _ else _:Value).oneCell'=true;split<;>rfl
theorem CJ(bs:List Nat)(i:Nat){j:Nat}(h:j<5):(q7 bs i)[j]?=some (FR bs (i*5+j)):=by simp[q7,h]
theorem FJ(bs:List Nat){i:Nat}(h:i<5):((dm bs).drop (i*5)).take 5=q7 bs i:=by
 refine List.ext_getElem? λj=>?_
 by_cases hj:j<5
 · rw[List.getElem?_take_of_lt hj,List.getElem?_drop,z0 bs (by omega),CJ bs i hj]
 · rw[List.getElem?_eq_none (by rw[bz];omega),List.getElem?_eq_none (by rw[m4];omega)]
def kh(W:List (List (List UInt8)))(k:Nat):Nat:=((List.range k).map λq=>if q%6=0 then 0 else(W.getD q []).length).sum
theorem qe(W:List (List (List UInt8)))(k:Nat):kh W (k+1)=kh W k+(if k%6=0 then 0 else(W.getD k []).length):=by simp[kh,cO]
def kM(bs:List Nat):List Value:=(List.range 25).map λq=>if q%6=0∨bs.length≤q then .pointer none else .pointer (some ⟨bs.getD q 0,0,none⟩)
theorem xt(bs:List Nat):(kM bs).length=25:=by simp[kM]
theorem Ej{bs:List Nat}{b:Nat}(h:bs.length<25)(hd: ¬bs.length%6=0):(kM bs).set bs.length (.pointer (some ⟨b,0,none⟩))=kM (bs++[b]):=by
 refine List.ext_getElem? λj=>?_
 by_cases hj:j=bs.length
 · subst hj
   rw[List.getElem?_set_self (by rw[xt];exact h)];simp[kM,h,hd,List.getD_eq_getElem?_getD]
 · rw[List.getElem?_set_ne (λe=>hj e.symm)]
   simp only[kM,List.getElem?_map];cases hr:(List.range 25)[j]?with
   |none=>rfl
   |some q=>
    have hq:q=j:=by
     by_cases h25:j<25
     · simp[h25]at hr;exact hr.symm
     · simp[h25]at hr
    subst hq;simp only[Option.map_some,af,aw,az];congr 1
    by_cases hlt:q<bs.length
    · simp[show ¬bs.length≤q by omega,show ¬bs.length+1≤q by omega,List.getElem?_append_left hlt]
    · simp[show bs.length≤q by omega,show bs.length+1≤q by omega]
theorem BC{bs:List Nat}{b:Nat}(hd:bs.length%6=0):kM (bs++[b])=kM bs:=by
 unfold kM;refine dH λq hq=>?_
 rw[af,fP]
 by_cases hq6:q%6=0
 · simp[hq6]
 · by_cases hlt:q<bs.length
   · simp[hq6,show ¬bs.length≤q by omega,show ¬bs.length+1≤q by omega,List.getElem?_append_left hlt]
   · have: ¬q=bs.length:=λe=>hq6 (by rw[e];exact hd)
     simp[show bs.length≤q by omega,show bs.length+1≤q by omega]
theorem Ek{bs:List Nat}(h:bs.length=25):kM bs=dm bs:=by
 unfold kM dm;refine dH λq hq=>?_
 rw[eI]at hq;simp[show ¬bs.length≤q by omega]
def nW(T U:Nat)(bs:List Nat)(q:Nat):HP:=if q%6=0 then(λ_=>True)else gm T U (bs.getD q 0) []
def jH(T U:Nat)(bs:List Nat):HP:=bI ((List.range bs.length).map (nW T U bs))
theorem Co(T U:Nat){H:List HP}{h:Hl}(s:bI H h):bI (jH T U []::H) h:=⟨em,h,A4 h,(pS h).symm,trivial,s⟩
theorem Cp(T U:Nat)(bs:List Nat)(b:Nat):(List.range bs.length).map (nW T U (bs++[b]))=(List.range bs.length).map (nW T U bs):=
 dH λq hq=>by
  rw[eI]at hq;unfold nW;rw[show(bs++[b]).getD q 0=bs.getD q 0 by simp[List.getElem?_append_left hq]]
theorem ti(T U:Nat)(bs:List Nat)(b:Nat){H:List HP}{h:Hl}(s:bI (nW T U (bs++[b]) bs.length::jH T U bs::H) h):bI (jH T U (bs++[b])::H) h:=by
 have e:(List.range (bs++[b]).length).map (nW T U (bs++[b]))=(List.range bs.length).map (nW T U bs)++[nW T U (bs++[b]) bs.length]:=by
  rw[af,fP,cO,cr,Cp];rfl
 obtain⟨h1,h2,d,rfl,a,b'⟩:=s;have s2:bI ((nW T U (bs++[b]) bs.length::(List.range bs.length).map (nW T U bs))++H) (jn h1 h2):=⟨h1,h2,d,rfl,a,(bX _ _).2 b'⟩;have p:((nW T U (bs++[b]) bs.length::(List.range bs.length).map (nW T U bs))++H).Perm (((List.range bs.length).map (nW T U bs)++[nW T U (bs++[b]) bs.length])++H):=(List.perm_append_comm (l₁:=[nW T U (bs++[b]) bs.length])).append_right H;have s3:=dS p s2;rw[←e]at s3;exact(bX _ _).1 s3
theorem AU(T U:Nat)(bs:List Nat)(hd:bs.length%6=0){H:List HP}{h:Hl}(s:bI (jH T U bs::H) h):bI (jH T U (bs++[0])::H) h:=by
 refine ti T U bs 0 ⟨em,h,A4 h,(pS h).symm,?_,s⟩;unfold nW;rw[if_pos hd];trivial
theorem Cq{T U:Nat}{bs:List Nat}(h:bs.length=25):jH T U bs=ek T U bs (List.replicate 25 []):=by
 unfold jH ek oi;rw[h];refine congrArg bI ?_;refine dH λq hq=>?_
 rw[eI]at hq;unfold nW pU;rw[show(List.replicate 25 ([]:List (List UInt8))).getD q []=[]by rw[List.getD_eq_getElem?_getD,List.getElem?_replicate,if_pos hq];rfl]
theorem GD{T U:Nat}{bs:List Nat}{W:List (List (List UInt8))}{k:Nat}(h6: ¬k%6=0)(hk:k<25){H:List HP}{h:Hl}(s:bI (ek T U bs W::H) h):bI (gm T U (bs.getD k 0) (W.getD k [])::fa T U bs W k::H) h:=by
 have:=vM hk s
 rwa [pC h6]at this
theorem GC{T U:Nat}{bs:List Nat}{W:List (List (List UInt8))}{k:Nat}(h6: ¬k%6=0)(hk:k<25){H:List HP}{h:Hl}(s:bI (gm T U (bs.getD k 0) (W.getD k [])::fa T U bs W k::H) h):bI (ek T U bs W::H) h:=by
 refine th (W:=W) hk (λ_ _=>rfl) ?_;rw[pC h6];exact s
end Leg
end

section
namespace Go.Proofs.YtjblgopghhgflaaGreat
open Go Leg Codec Api Dsk Wal
theorem yF(n:Nat)(bs:List Nat)(W:List (List (List UInt8)))(hsm: ∀k,k<25→kh W k+(W.getD k []).length≤1000000000):
 DT 66 #[(.pointer (some ⟨n,0,none⟩))] T0 [ak n (dm bs) 156,ek 208 5 bs (W)] (RI (.int .i64 ((kh W 25:Nat):Int)) [ak n (dm bs) 156,ek 208 5 bs W]):=by
 refine BD 28 Tryz.func66 rfl rfl rfl λw0 F hF=>sr λ_ J1=>PS ?_
 refine nx J1 (sr λ_ J2=>PS ?_);refine nx J2 (aa λ_ J3=>sr λ_ J4=>P2 ?_);refine FA 0 Tryz.underlying156 Cy ?_;refine tp (aJ (vs:=dm bs) rfl HO rfl Cy rfl (RO 0) (xr bs) (ul (xr bs))) ?_;refine PS ?_;refine nx J4 (aq ?_)
 refine bF (α:=(Nat)) (λi=>i≤5) (λi=>[(2,(.int .i64 0)),(3,(.int .i64 (((kh W (i*5):Nat):Int)))),(11,(.agg (dm bs).toArray)),(12,(.int .i64 (((i:Nat):Int))))]) (λi=>[ak n (dm bs) 156,ek 208 5 bs (W)]) (λi=>5-i) 0
  (aR _) SB
  (λ_ s=>s) (λi hinv=>?_)
 obtain hi:=hinv;refine sr λ_ J5=>PS ?_
 refine ao ?_ ?_<;>intro h13;refine nx J5 (aa λ_ J6=>CY (qx J6 (aa λ_ J7=>aq (sr λ_ J8=>tp (Mm (cs:=dm bs) (vs:=q7 bs i) (r:=i*5) rfl HO GL rfl zx rfl rfl (by omega) (by omega) (by omega) (FJ bs (by omega))) ?_))));refine XA Lr λb5=>?_
 refine ci (vs:=q7 bs i) (i:=0) (ab rfl) rfl rfl rfl rfl rfl (by rw[m4 bs i];exact zx) (FI bs i) rfl rfl (by rw[m4 bs i];exact aN _) (it (Eq.trans (rfl:_=5) (by rw[m4 bs i]:(q7 bs i).length=5).symm)) rfl (nx J8 (sr λ_ J9=>tp (aJ (vs:=q7 bs i) rfl GL rfl zx rfl (RO 0) (m4 bs i) (ul (m4 bs i))) ?_));refine PS ?_;refine nx J9 (aq ?_)
 refine bF (α:=(Nat)) (λj=>j≤5) (λj=>[(2,(.int .i64 0)),(3,(.int .i64 (((kh W (i*5+j):Nat):Int)))),(11,(.agg (dm bs).toArray)),(12,(.int .i64 (((i:Nat):Int)))),(15,(.agg (q7 bs i).toArray)),(16,(.int .i64 (((j:Nat):Int))))]) (λj=>[ak n (dm bs) 156,ek 208 5 bs (W)]) (λj=>5-j) 0
  (aR _) SB
  (λ_ s=>aj [1,1] rfl s) (λj hinv=>?_)
 obtain hj:=hinv;refine sr λ_ J10=>PS ?_
 refine ao ?_ ?_<;>intro h17;refine nx J10 (aa λ_ J11=>CY (qx J11 (aa λ_ J12=>aq (sr λ_ J13=>tp (qF (cs:=q7 bs i) (v:=FR bs (i*5+j)) (r:=j) rfl GL vX rfl Cz rfl rfl (by omega) (by omega) (by omega) (CJ bs i (by omega))) ?_))));refine PS ?_;refine nx J13 (sr λ_ J14=>PS ?_);refine tp (PV.ptrNeIf rfl vX rfl rfl) ?_;refine aX ?_ ?_<;>intro h20;have h20: ¬((i*5+j)%6=0):=by simpa using h20
 refine TL.weak (L':=[(2,(.int .i64 0)),(3,(.int .i64 (((kh W (i*5+j):Nat):Int)))),(7,(.pointer (some ⟨(bs.getD (i*5+j) 0),0,none⟩))),(11,(.agg (dm bs).toArray)),(12,(.int .i64 (((i:Nat):Int)))),(15,(.agg (q7 bs i).toArray)),(16,(.int .i64 (((j:Nat):Int)))),(17,(.bool true)),(18,(FR bs (i*5+j))),(19,(FR bs (i*5+j))),(20,(.bool true))]) (bo rfl rfl (bo rfl rfl (bo rfl (if_neg h20) (bo rfl rfl (bo rfl rfl (bo rfl rfl (bo rfl rfl (bo rfl rfl (bo rfl rfl (bo rfl rfl (bo rfl rfl SB))))))))))) (λ_ s=>s) (cn (H':=[gm 208 5 (bs.getD (i*5+j) 0) (W.getD (i*5+j) []),fa 208 5 bs W (i*5+j),ak n (dm bs) 156]) (λ_ s=>GD h20 (by omega) (aA [1] rfl s)) (nx J14 (CY (ae (P2 ?_)))));refine CE sY (iJ (bs.getD (i*5+j) 0) (W.getD (i*5+j) [])) ID ?_;refine tp (cw (r:=((kh W (i*5+j)+(W.getD (i*5+j) []).length:Nat):Int)) rfl rfl rfl (by rw[←Int.natCast_add];exact bC (by omega) (by have:=hsm (i*5+j) (by omega);omega))) ?_;refine PS ?_;refine au (ag (ac J12 (ae (AD ?_))));refine PS ?_;refine au ?_
 exact aL ((j+1):(Nat)) (by omega) (by show 5- (j+1)<5-j;omega)
  (aQ (bo rfl (by rw[show kh W (i*5+(j+1))=kh W (i*5+j)+(W.getD (i*5+j) []).length from by rw[←mm,qe,if_neg h20]]) SB))
  (λ_ s=>aA [1,0] rfl (GC h20 (by omega) (aj [0,0,0] rfl s)))
 refine nx J14 (CN (aS (ag (ac J12 (ae (AD ?_))))));refine PS ?_;refine au ?_
 exact aL ((j+1):(Nat)) (by omega) (by show 5- (j+1)<5-j;omega)
  (aQ (bo rfl (by rw[show kh W (i*5+(j+1))=kh W (i*5+j)from by rw[←mm,qe,if_pos (by simpa using h20),qA]]) SB))
  (λ_ s=>s)
 refine nx J10 (aa λ_ J15=>CN (bg (aF (aF (bD (ag (ac J7 (ae (AD ?_)))))))));refine PS ?_;refine au ?_
 exact aL ((i+1):(Nat)) (by omega) (by show 5- (i+1)<5-i;omega)
  (aQ (bo rfl (by rw[show(i+1)*5=i*5+j by omega]) SB))
  (λ_ s=>s)
 refine nx J5 (aa λ_ J16=>CN (bg (aF (aF (bD (ac J3 (sr λ_ J17=>P2 ?_)))))));refine nx J17 (ai (WK [0,0] (ap rfl rfl ?_)));exact⟨by rw[show i*5=25 by omega],rfl⟩
theorem Ah(n:Nat)(W:List (List (List UInt8)))(hsm: ∀k,k<25→kh W k+(W.getD k []).length≤1000000000):DT 66 #[.pointer (some ⟨n,0,none⟩)] T0 [eb 156 208 5 n W] (RI (.int .i64 ((kh W 25:Nat):Int)) [eb 156 208 5 n W]):=
 Leg.Does.pack (B:=[]) λbs=>Leg.Does.fold (yF n bs W hsm) λe H hp=>by
  cases e with
  |returned v=>
   obtain⟨rfl,rfl⟩:=hp;exact⟨[eb 156 208 5 n W],λ_ s=>bm (p:=λbs:List Nat=>[ak n (dm bs) 156,ek 208 5 bs W]) (H:=[]) bs s,rfl,rfl⟩
  |panicked c=>exact hp.elim
  |outgrown=>exact hp.elim
theorem GE{T U:Nat}{bs:List Nat}{b:Nat}(h: ¬bs.length%6=0):nW T U (bs++[b]) bs.length=gm T U b []:=by
 unfold nW;rw[if_neg h,List.getD_eq_getElem?_getD,List.getElem?_append_right (aN _),wZ];rfl
theorem Cr{T U:Nat}{bs:List Nat}{b:Nat}(hl: ¬bs.length%6=0){H:List HP}{h:Hl}(s:bI (gm T U b []::jH T U bs::H) h):bI (jH T U (bs++[b])::H) h:=ti T U bs b (by rw[GE hl];exact s)
theorem Ag:
 DT 53 #[] T0 [] (dG (λv H=>∃n,v= .pointer (some ⟨n,0,none⟩)∧H=[eb 156 208 5 n (List.replicate 25 [])])):=by
 refine Leg.Does.body (vs:=[]) (n:=26) Tryz.func53 rfl rfl rfl (λw0 F hF=>?_);refine sr λ_ J1=>?_
 refine ot ?_;refine nx J1 ?_;refine sr λ_ J2=>?_
 refine tp (ju (cells:=#[(.pointer none),(.pointer none),(.pointer none),(.pointer none),(.pointer none),(.pointer none),(.pointer none),(.pointer none),(.pointer none),(.pointer none),(.pointer none),(.pointer none),(.pointer none),(.pointer none),(.pointer none),(.pointer none),(.pointer none),(.pointer none),(.pointer none),(.pointer none),(.pointer none),(.pointer none),(.pointer none),(.pointer none),(.pointer none)]) rfl rfl (by as_aux_lemma=>kernel_rfl)) ?_;refine TL.box (ab rfl) rfl rfl rfl rfl (λb5=>?_);change TL _ _ _ _ _ _ _ _ _ [ak b5 [(.pointer none),(.pointer none),(.pointer none),(.pointer none),(.pointer none),(.pointer none),(.pointer none),(.pointer none),(.pointer none),(.pointer none),(.pointer none),(.pointer none),(.pointer none),(.pointer none),(.pointer none),(.pointer none),(.pointer none),(.pointer none),(.pointer none),(.pointer none),(.pointer none),(.pointer none),(.pointer none),(.pointer none),(.pointer none)] 156];refine ot ?_;refine nx J2 ?_;refine aa λ_ J3=>?_
 refine sr λ_ J4=>?_
 refine mv ?_;refine nx J4 ?_;refine aq ?_
 refine bF (α:=(Nat)×(List Nat)) (λ⟨i,bs⟩=>i≤5∧bs.length=i*5) (λ⟨i,bs⟩=>[(0,(.pointer none)),(1,(.pointer (some ⟨b5,0,none⟩))),(6,(.int .i64 (((i:Nat):Int))))]) (λ⟨i,bs⟩=>[ak b5 (kM (bs)) 156,jH 208 5 (bs)]) (λ⟨i,bs⟩=>5-i) (0,[])
  ⟨aR _,rfl⟩ (aQ (aQ (bo rfl (by congr 1) (Jl _))))
  (λ_ s=>aA [1,0] rfl (Co 208 5 s)) (λ⟨i,bs⟩ hinv=>?_)
 obtain⟨hi,hbs⟩:=hinv;refine sr λ_ J5=>?_
 refine tp (PV.lss rfl rfl rfl) ?_;refine ao (λh7=>?_) (λh7=>?_);refine nx J5 ?_;refine aa λ_ J6=>?_
 refine mu rfl ?_;refine aS ?_;refine ac J6 ?_;refine aa λ_ J7=>?_
 refine aq ?_;refine sr λ_ J8=>?_
 refine mv ?_;refine ot ?_;refine nx J8 ?_;refine sr λ_ J9=>?_
 refine mv ?_;refine nx J9 ?_;refine aq ?_
 refine bF (α:=(Nat)×(List Nat)) (λ⟨j,bs2⟩=>j≤5∧bs2.length=i*5+j) (λ⟨j,bs2⟩=>[(0,(.pointer none)),(1,(.pointer (some ⟨b5,0,none⟩))),(2,(.int .i64 (((i:Nat):Int)))),(6,(.int .i64 (((i:Nat):Int)))),(9,(.int .i64 (((j:Nat):Int))))]) (λ⟨j,bs2⟩=>[ak b5 (kM (bs2)) 156,jH 208 5 (bs2)]) (λ⟨j,bs2⟩=>5-j) (0,bs)
  ⟨aR _,hbs⟩ (aQ (aQ (aQ (aQ (bo rfl (by congr 1) (Jl _))))))
  (λ_ s=>s) (λ⟨j,bs2⟩ hinv=>?_)
 obtain⟨hj,hbl⟩:=hinv;refine sr λ_ J10=>?_
 refine tp (PV.lss rfl rfl rfl) ?_;refine ao (λh10=>?_) (λh10=>?_);refine nx J10 ?_;refine aa λ_ J11=>?_
 refine mu rfl ?_;refine aS ?_;refine ac J11 ?_;refine aa λ_ J12=>?_
 refine aq ?_;refine sr λ_ J13=>?_
 refine mv ?_;refine ot ?_;refine nx J13 ?_;refine sr λ_ J14=>?_
 refine mv ?_;refine mv ?_;refine tp (PV.neq rfl rfl rfl) ?_;refine ao (λh14=>?_) (λh14=>?_);refine nx J14 ?_;refine mu rfl ?_;refine qv (λw=>Frm F w∧True) dF rfl (λ_ s=>⟨eP s,trivial⟩) ?_;refine ta 0 rfl (jj rfl rfl) ?_;refine ta 1 rfl (jj rfl rfl) ?_;refine ta 2 rfl (jj rfl rfl) ?_;refine ta 4 rfl (fD rfl rfl) ?_;refine ta 5 rfl (a9 (r:=0) rfl Tryz.underlying156 rfl Cy rfl rfl) ?_;refine ta 6 rfl (pm (r:=i*5) rfl HO zx rfl rfl (by omega) (by omega) (by omega)) ?_;refine cE [3] (by kernel_rfl) rfl ?_;refine aE rfl ?_ ?_;refine j9 (A:=[]) (ab rfl) rfl rfl rfl LF rfl (AV) (λ_ s=>s) (λ_ _ _=>trivial) (λvR HR hR=>?_);obtain⟨bx,rfl,rfl⟩:=hR;change TL _ _ _ _ _ _ _ _ _ [gm 208 5 bx [],ak b5 (kM (bs2)) 156,jH 208 5 (bs2)];refine au ?_;refine tn (λ_ s=>⟨eP s,trivial⟩) ?_;refine ta 7 rfl (pm (r:=i*5+j) rfl GL Cz rfl rfl (by omega) (by omega) (by omega)) ?_;refine cE [8] (by kernel_rfl) rfl ?_;refine aE rfl ?_ ?_;refine bS (i:=1) (H':=[gm 208 5 bx [],ak b5 (kM (bs2++[bx])) 156,jH 208 5 (bs2)]) (ab rfl) rfl rfl rfl rfl rfl Cz rfl rfl (by rw[xt];omega) (by rw[show i*5+j=bs2.length by omega];exact Ej (by omega) (by omega)) rfl ?_;refine au ?_;refine tn (λ_ s=>⟨eP s,trivial⟩) ?_;refine TD.done (by kernel_rfl) ?_;refine ag ?_;refine ac J12 ?_;refine ae ?_;refine tp (cw rfl rfl rfl (bC (by omega) (by omega))) ?_;refine mv ?_;refine au ?_
 exact aL ((j+1,bs2++[bx]):(Nat)×(List Nat)) ⟨by omega,by rw[af,fP];omega⟩ (by show 5- (j+1)<5-j;omega)
  (aQ (aQ (aQ (aQ (bo rfl (by simp) (Jl _))))))
  (λ_ s=>show bI [ak b5 (kM (bs2++[bx])) 156,jH 208 5 (bs2++[bx])] _ from aA [1,0] rfl (Cr (by omega) (aj [0,1,0] rfl s)))
 exact bA;exact bA;refine nx J14 ?_;refine Ds rfl ?_;refine aS ?_;refine ag ?_;refine ac J12 ?_;refine ae ?_;refine tp (cw rfl rfl rfl (bC (by omega) (by omega))) ?_;refine mv ?_;refine au ?_
 exact aL ((j+1,bs2++[0]):(Nat)×(List Nat)) ⟨by omega,by rw[af,fP];omega⟩ (by show 5- (j+1)<5-j;omega)
  (aQ (aQ (aQ (aQ (bo rfl (by simp) (Jl _))))))
  (λ_ s=>show bI [ak b5 (kM (bs2++[0])) 156,jH 208 5 (bs2++[0])] _ by rw[BC (by omega)];exact aA [1,0] rfl (AU 208 5 bs2 (by omega) (aA [1,0] rfl s)))
 refine nx J10 ?_;refine aa λ_ J15=>?_
 refine Ds rfl ?_;refine bg ?_;refine aF ?_;refine aF ?_;refine bD ?_;refine ag ?_;refine ac J7 ?_;refine ae ?_;refine tp (cw rfl rfl rfl (bC (by omega) (by omega))) ?_;refine mv ?_;refine au ?_
 exact aL ((i+1,bs2):(Nat)×(List Nat)) ⟨by omega,by omega⟩ (by show 5- (i+1)<5-i;omega)
  (aQ (aQ (bo rfl (by simp) (Jl _))))
  (λ_ s=>s)
 refine nx J5 ?_;refine aa λ_ J16=>?_
 refine Ds rfl ?_;refine bg ?_;refine aF ?_;refine aF ?_;refine bD ?_;refine ac J3 ?_;refine sr λ_ J17=>?_
 refine mv ?_;refine ot ?_;refine nx J17 ?_;refine ai ?_;refine aD (H':=[eb 156 208 5 b5 (List.replicate 25 [])]) (dK _) (λ_ s=>bm (p:=λbs:List Nat=>[ak b5 (dm bs) 156,ek 208 5 bs (List.replicate 25 [])]) (H:=[]) bs (by rw[←Ek (by omega),←Cq (by omega)];exact s)) ?_;refine ap rfl rfl ?_;exact⟨b5,rfl,rfl⟩
end Go.Proofs.YtjblgopghhgflaaGreat
end

section
namespace Leg
open Go Codec Api
def eE(n:Nat)(D M P:Nat→Value):List Value:= .pointer (some ⟨n,0,none⟩)::((List.range 5).map D++((List.range 5).map M++(List.range 5).map P))
section
variable (n:Nat) (D M P:Nat→Value) {i:Nat}
theorem qm:(eE n D M P).length=16:=by simp[eE]
theorem yX:(eE n D M P)[0]?=some (.pointer (some ⟨n,0,none⟩)):=rfl
theorem Cj(h:i<5):(eE n D M P)[1+i]?=some (D i):=by
 rw[lr,eE,List.getElem?_cons_succ,List.getElem?_append_left (by simpa using h)];simp[h]
theorem wL(h:i<5):(eE n D M P)[6+i]?=some (M i):=by
 rw[show 6+i=(5+i)+1 by omega,eE,List.getElem?_cons_succ,List.getElem?_append_right (by simp),List.getElem?_append_left (by simp;omega)];simp[h]
theorem KQ(h:i<5):(eE n D M P)[11+i]?=some (P i):=by
 rw[show 11+i=(10+i)+1 by omega,eE,List.getElem?_cons_succ,List.getElem?_append_right (by simp;omega),List.getElem?_append_right (by simp;omega)];simp only[bH,nu];rw[show 10+i-5-5=i by omega];simp[h]
end
def my{α:Type}(f:Nat→α)(i:Nat)(v:α):Nat→α:=λj=>if j=i then v else f j
theorem kF{α:Type}(f:Nat→α)(i:Nat)(v:α):my f i v i=v:=if_pos rfl
theorem oC{α:Type}(f:Nat→α){i j:Nat}(v:α)(h:j≠i):my f i v j=f j:=if_neg h
theorem yK{α:Type}(f:Nat→α){i k:Nat}(h:i<k)(v:α):((List.range k).map f).set i v=(List.range k).map (my f i v):=by
 refine List.ext_getElem? λj=>?_
 by_cases hj:j=i
 · subst hj
   rw[List.getElem?_set_self (by simpa using h)];simp[h,kF]
 · rw[List.getElem?_set_ne (λe=>hj e.symm)]
   by_cases hk:j<k
   · simp[hk,oC f v hj]
   · simp[hk]
section
variable (n:Nat) (D M P:Nat→Value) {i:Nat} (v:Value)
theorem HI(h:i<5):(eE n D M P).set (1+i) v=eE n (my D i v) M P:=by
 rw[lr,eE,bM,po _ _ (by simpa using h),yK D h];rfl
theorem tN(h:i<5):(eE n D M P).set (6+i) v=eE n D (my M i v) P:=by
 rw[show 6+i=(5+i)+1 by omega,eE,bM,fO _ _ (by simp),po _ _ (by simp;omega)];simp only[bH,nu];rw[show 5+i-5=i by omega,yK M h];rfl
theorem Do(h:i<5):(eE n D M P).set (11+i) v=eE n D M (my P i v):=by
 rw[show 11+i=(10+i)+1 by omega,eE,bM,fO _ _ (by simp;omega),fO _ _ (by simp;omega)];simp only[bH,nu];rw[show 10+i-5-5=i by omega,yK P h];rfl
end
abbrev JI(c i:Nat):Value:= .agg #[.pointer (some ⟨c,0,none⟩), .int .i64 ((i:Nat):Int)]
end Leg
namespace Go.Proofs.YtjblgopghhgflaaGreat
open Go Leg Codec Api Dsk Wal
section
variable {CT NT BT U c n d i:Nat} {D M P:Nat→Value} {W:List (List (List UInt8))} {recs:List (List UInt8)} {l:List SaidT} {H:List HP} {h:Hl}
end
end Go.Proofs.YtjblgopghhgflaaGreat
end

section
namespace Api
open Go Leg Codec Dsk Wal
structure MS(δ:Type) where
 id:Int
 view:ViewT
 own:RowT
 mirror:MirT
 acc:AccT
 round:Int
 vote:Option VoteT
 book:BookT
 busy:Bool
 kept:Int
 waits:Int
 ops:Int
 replies:List ReplyT
 told:Vector Int 5
 last:Vector RowT 5
 e:δ
 o:List SaidT
structure Adr where
 lg:Nat
 vo:Value
 rs:Value
structure Dk(δ:Type) where
 pt:δ→List UInt8→δ×Int
 dn:δ→Bool
 ok:δ→Prop
 sure: ∀(e:δ) (bs:List UInt8),ok e→bs.length≤3000→ok (pt e bs).1
variable {δ:Type}
abbrev MS.rep(s:MS δ)(a:Adr):RepT:=⟨s.id, .pointer (some ⟨a.lg,0,none⟩),s.view,s.own,s.mirror,s.acc,s.round,a.vo,s.book,s.busy,s.kept,s.waits,s.ops,a.rs,s.told,s.last⟩
def MS.setView(s:MS δ)(v:ViewT):MS δ:= {s with view:=v}
def MS.setOwn(s:MS δ)(v:RowT):MS δ:= {s with own:=v}
def MS.setAcc(s:MS δ)(v:AccT):MS δ:= {s with acc:=v}
def MS.setRound(s:MS δ)(v:Int):MS δ:= {s with round:=v}
def MS.setBusy(s:MS δ)(v:Bool):MS δ:= {s with busy:=v}
def MS.setKept(s:MS δ)(v:Int):MS δ:= {s with kept:=v}
def MS.setWaits(s:MS δ)(v:Int):MS δ:= {s with waits:=v}
def MS.setOps(s:MS δ)(v:Int):MS δ:= {s with ops:=v}
def MS.setTold(s:MS δ)(v:Vector Int 5):MS δ:= {s with told:=v}
def MS.setLast(s:MS δ)(v:Vector RowT 5):MS δ:= {s with last:=v}
def Adr.nil:Adr:=⟨0, .pointer none, .slice none 0 0⟩
def cR(w:Int):Int:=IntKind.i64.wrap (1*2^min w.toNat IntKind.i64.bits)
def Aj(a b:BallotT):Bool:=if a.round≠b.round then decide (a.round<b.round)else decide (a.who<b.who)
def xU(a:AccT)(ep:Int)(b:BallotT):Bool:=decide (ep≠a.epoch)||(decide (b.round<1)||Aj b a.vow)
def bP(a:AccT)(ep:Int)(b:BallotT):AccT×Bool:=if xU a ep b then(a,false)else({a with vow:=b},true)
def fX(a:AccT)(ep:Int)(b:BallotT)(c:ChangeT):AccT×Bool:=if xU a ep b then(a,false)else({a with vow:=b,had:=b,change:=c},true)
def kg(bits:Int)(k:Nat):List Int:=((List.range k).filter λi:Nat=>E5 bits ((i:Nat):Int)).map λi:Nat=>((i:Nat):Int)
def Br(bits:Int):List Int:=kg bits 5
def Ip(part all:Int):Bool:=decide (2* (((Br (pH .i64 part all)).length:Nat):Int)>(((Br all).length:Nat):Int))
def gi(v:ViewT)(bits:Int):Bool:=Ip bits v.members
def iV(v:ViewT)(b:BallotT)(c:ChangeT):VoteT:= {VoteT.zero with view:=v,ballot:=b,change:=c}
def mI(v:VoteT)(who:Int)(b:BallotT):Bool:=decide (b.flat=v.ballot.flat)&&ij v.view who
def ui(v:VoteT)(who:Int)(had:BallotT)(c:ChangeT):VoteT:=
 if decide (0<had.round)&&Aj v.best had then {v with vowed:=hY .i64 v.vowed (cR who),best:=had,change:=c}else {v with vowed:=hY .i64 v.vowed (cR who)}
def ey(v:VoteT)(who:Int)(b had:BallotT)(c:ChangeT):VoteT×Bool:=
 if v.putting|| !mI v who b then(v,false)else({ui v who had c with putting:=gi v.view (hY .i64 v.vowed (cR who))},gi v.view (hY .i64 v.vowed (cR who)))
def fV(v:VoteT)(who:Int)(b:BallotT):VoteT×Bool:=
 if !v.putting|| !mI v who b then(v,false)else({v with took:=hY .i64 v.took (cR who)},gi v.view (hY .i64 v.took (cR who)))
def nF(x:RowT)(who v:Int)(l:Vector CellT 4):RowT:=if h:cD who=true then {x with heir:=x.heir.set who.toNat v (e6 h),left:=x.left.set who.toNat l (e6 h)}else x
def vn(x:RowT)(who:Int):Vector CellT 4:=if h:cD who=true then x.left[who.toNat]'(e6 h)else RowT.zero.cells
def mD(who:Int)(dead:RowT)(x:RowT)(i:Nat):RowT:=if((i:Nat):Int)≠who∧0<fu dead ((i:Nat):Int)∧fu x ((i:Nat):Int)=0 then nF x ((i:Nat):Int) (fu dead ((i:Nat):Int)) (vn dead ((i:Nat):Int))else x
def nh(x:RowT)(who:Int)(dead:RowT)(k:Nat):RowT:=(List.range k).foldl (mD who dead) (nF x who (fT (dead.version+1)) dead.cells)
def dD(x:RowT)(who:Int)(dead:RowT):RowT×Int:=
 if !cD who then(.zero,5)else if 0<fu x who then(.zero,8)else({nh x who dead 5 with version:=fT ((nh x who dead 5).version+1)},0)
def pY(s:MS δ)(who:Int):Int:=if h:cD who=true then s.told[who.toNat]'(e6 h)else 0
def mM(s:MS δ)(who:Int):RowT:=if h:cD who=true then s.last[who.toNat]'(e6 h)else .zero
def zM{α:Type}(v:Vector α 5)(w:Int)(x:α):Vector α 5:=if h:cD w=true then v.set w.toNat x (e6 h)else v
def kR(s:MS δ)(who:Int)(y:RowT):MS δ:= {s with last:=if pY s who=0∨(mM s who).version<y.version then zM s.last who y else s.last}
def uj(s:MS δ)(from' who:Int)(y:RowT):MS δ:= {kR s who y with told:=zM s.told who (hY .i64 (pY s who) (cR from'))}
def uk(s:MS δ)(who w:Int):Bool:=decide ((pY s who).fdiv (2^min w.toNat IntKind.i64.bits)%2=1)
def AA(s:MS δ)(i:Nat):Bool:=decide (kT s.view ((i:Nat):Int)=some s.id)&&decide (fu s.own ((i:Nat):Int)≤0)
def gE(s:MS δ)(k:Nat):List Int:=((List.range k).filter (AA s)).map λi:Nat=>((i:Nat):Int)
def br(s:MS δ):List Int:=gE s 5
def tJ(s:MS δ):Bool:=(br s).all λi=>(gv i).all λw=>uk s i w
def oX(s:MS δ)(l:List Int):RowT:=l.foldl (λx i=>if 0<fu x i then x else(dD x i (mM s i)).1) s.own
def jx(v:ViewT):MsgT:= {MsgT.zero with kind:=7,view:=v}
def nG(i:Int)(v:ViewT):MsgT:= {MsgT.zero with kind:=8,whose:=i,view:=v}
def ff(ep:Int)(b:BallotT):MsgT:= {MsgT.zero with kind:=3,epoch:=ep,ballot:=b}
def j0(ep:Int)(b had:BallotT)(c:ChangeT):MsgT:= {MsgT.zero with kind:=4,epoch:=ep,ballot:=b,had:=had,change:=c}
def iz(ep:Int)(b:BallotT)(c:ChangeT):MsgT:= {MsgT.zero with kind:=5,epoch:=ep,ballot:=b,change:=c}
def jl(ep:Int)(b:BallotT):MsgT:= {MsgT.zero with kind:=6,epoch:=ep,ballot:=b}
def gz(ep:Int)(b:BallotT):RecT:= {RecT.zero with kind:=3,epoch:=ep,ballot:=b}
def lE(ep:Int)(b:BallotT)(c:ChangeT):RecT:= {RecT.zero with kind:=4,epoch:=ep,ballot:=b,change:=c}
def da(s:MS δ)(n:Int):MS δ:= {s with round:=n}
def kE(s:MS δ)(v:VoteT):MS δ:= {s with vote:=some v}
def vW(s:MS δ)(a:AccT):MS δ:= {s with acc:=a}
variable (K:Dk δ)
def ii(s:MS δ)(l:List SaidT):MS δ:= {s with o:=if K.dn s.e then s.o else s.o++l}
def Bw(s:MS δ)(to':Int)(m:MsgT):MS δ:=ii K s [⟨to',m⟩]
theorem oO(s:MS δ):ii K s []=s:=by
 unfold ii;rw[aT,ite_self]
theorem FG(s:MS δ)(a b:List SaidT):ii K (ii K s a) b=ii K s (a++b):=by
 unfold ii
 by_cases h:K.dn s.e=true<;>simp[h]
def mA(f:MS δ→MS δ)(s:MS δ)(to':Int)(m:MsgT):MS δ:=if to'=s.id then f s else Bw K s to' m
def dT(s:MS δ)(r:RecT):MS δ:= {s with e:=(K.pt s.e (jq r)).1}
def rc(s:MS δ)(r:RecT):Int:=(K.pt s.e (jq r)).2
def db(s:MS δ)(op err val:Int):MS δ:= {s with replies:=s.replies++[⟨op,err,val⟩]}
def e8(s:MS δ):MS δ:=ii K s (oE (s.rep .nil))
def m9(id:Int)(m:MsgT)(p:Nat→Bool)(k:Nat):List SaidT:=((List.range k).filter λi:Nat=> !decide (((i:Nat):Int)=id)&&p i).map λi:Nat=>⟨((i:Nat):Int),m⟩
theorem hJ(id:Int)(m:MsgT)(p:Nat→Bool)(k:Nat):m9 id m p (k+1)=m9 id m p k++(if((k:Nat):Int)≠id∧p k=true then [⟨((k:Nat):Int),m⟩]else []):=by
 unfold m9;rw[cO,List.filter_append,cr]
 by_cases h:((k:Nat):Int)=id<;>by_cases h2:p k=true<;>simp[h,h2]
def lN(s:MS δ)(y:RowT):MS δ:=ii K s (m9 s.id (rh s.id y) (λ_=>true) 5)
def mW(s:MS δ)(v:ViewT):MS δ:=ii K s (m9 s.id (jx v) (λ_=>true) 5)
def s9(s:MS δ)(x:RowT)(op:Int):MS δ:= {s with own:=x,busy:=true,kept:=0,waits:=op}
def eA(s:MS δ)(x:RowT)(op:Int):MS δ×Int:=if rc K s (jW x)≠0 then(dT K s (jW x),rc K s (jW x))else(e8 K (s9 (dT K s (jW x)) x op),0)
def mg(s:MS δ):MS δ:=if s.busy||decide ((br s).length=0)then s else if tJ s then(eA K s (oX s (br s)) 0).1 else s
def gl(s:MS δ):MS δ:= {s with busy:=false,book:=(fp s.book s.id s.own).1}
def lw(s:MS δ):MS δ:= {s with replies:=if 0<s.waits then s.replies++[⟨s.waits,0,0⟩]else s.replies,waits:=if 0<s.waits then 0 else s.waits}
theorem w7{s:MS δ}(h:0<s.waits):lw s= {db s s.waits 0 0 with waits:=0}:=by unfold lw;rw[if_pos h,if_pos h];rfl
theorem w8{s:MS δ}(h: ¬0<s.waits):lw s=s:=by unfold lw;rw[if_neg h,if_neg h]
def kU(s:MS δ):MS δ:=mg K (lN K (lw (gl s)) s.own)
def ko(s:MS δ)(from' ver:Int):Bool:=s.busy&&(decide (ver=s.own.version)&&decide (from'∈gv s.id))
def vA(s:MS δ):Bool:=(gv s.id).all λw=> !y8 s.kept w
def ic(s:MS δ)(from':Int):MS δ:= {s with kept:=hY .i64 s.kept (cR from')}
def dB(s:MS δ)(from':Int)(m:MsgT):MS δ:=if ko s from' m.version then(if vA (ic s from')then kU K (ic s from')else ic s from')else s
def Dp(s:MS δ)(w:Int)(y:RowT):MS δ:= {s with book:=(fp s.book w y).1}
def ib(s:MS δ)(w:Int)(y:RowT):MS δ:= {s with mirror:=(lI s.mirror w y).1}
def iv(s:MS δ)(from':Int)(m:MsgT):MS δ:=
 if m.whose≠from'∨fF s.mirror m.whose=true then s
 else if kP s.mirror m.whose m.row then(if rc K s (jE m.whose m.row)≠0 then dT K s (jE m.whose m.row)else Bw K (ib (dT K s (jE m.whose m.row)) m.whose m.row) from' (rq (dW (ib (dT K s (jE m.whose m.row)) m.whose m.row).mirror m.whose).version))
 else Bw K s from' (rq (dW s.mirror m.whose).version)
def fC(s:MS δ)(from':Int)(m:MsgT):MS δ:=mg K (if from'∈gv m.whose then uj s from' m.whose m.row else s)
def lj(s:MS δ)(w:Int):MS δ:= {s with mirror:=nf s.mirror w}
def fe(s:MS δ)(from' w:Int):MS δ:=
 let back:=λs:MS δ=>mA K (λs=>fC K s s.id (gB w (dW s.mirror w))) s from' (gB w (dW s.mirror w))
 if kT s.view w≠some from' then s
 else if fF s.mirror w then back s
 else if rc K s (iS w)≠0 then dT K s (iS w)else back (lj (dT K s (iS w)) w)
def gF(s:MS δ)(i w:Int):MS δ:=if uk s i w then s else mA K (λs=>fe K s s.id i) s w (nG i s.view)
def o9(s:MS δ)(i:Int):MS δ:=gF K (gF K s i ((i+1)%5)) i ((i+2)%5)
def fB(l:List Int)(s:MS δ):MS δ:=l.foldl (o9 K) s
def ql(s:MS δ):MS δ:=fB K (br s) s
def ma(s:MS δ)(v:ViewT):MS δ:= {s with view:=v,acc:= {AccT.zero with epoch:=v.epoch},vote:=none,round:=0}
def pA(s:MS δ)(v:ViewT):Bool:=decide (s.view.epoch<v.epoch)&&decide (rc K s (ku v)=0)
def gN(s:MS δ)(v:ViewT):MS δ:=if v.epoch≤s.view.epoch then s else if rc K s (ku v)≠0 then dT K s (ku v)else ql K (ma (dT K s (ku v)) v)
def lO(s:MS δ)(from':Int)(m:MsgT):MS δ:=fe K (gN K s m.view) from' m.whose
def kC(s:MS δ)(c:ChangeT):MS δ:=if(dx s.view c).2≠0 then s else if pA K s (dx s.view c).1 then mW K (gN K s (dx s.view c).1) (dx s.view c).1 else gN K s (dx s.view c).1
def ez(f:MS δ→MS δ)(s:MS δ)(from':Int)(m:MsgT):MS δ:=
 if m.epoch<s.view.epoch then(if m.kind=3∨m.kind=5 then Bw K s from' (jx s.view)else s)
 else if s.view.epoch<m.epoch∨ij s.view s.id=false then s
 else f (da s (max s.round m.ballot.round))
def kG(from':Int)(m:MsgT)(s:MS δ):MS δ:=match s.vote with
 |none=>s
 |some vt=>if(fV vt from' m.ballot).2 then kC K (kE s (fV vt from' m.ballot).1) vt.change else(kE s (fV vt from' m.ballot).1)
def p3(s:MS δ)(from':Int)(m:MsgT):MS δ:=ez K (kG K from' m) s from' m
def m6(from':Int)(m:MsgT)(s:MS δ):MS δ:=mA K (λs=>p3 K s s.id (jl m.epoch m.ballot)) s from' (jl m.epoch m.ballot)
def n6(from':Int)(m:MsgT)(s:MS δ):MS δ:=
 if(dx s.view m.change).2≠0 then s else if(fX s.acc m.epoch m.ballot m.change).2=false then s
 else if(fX s.acc m.epoch m.ballot m.change).1.flat≠s.acc.flat then(if rc K s (lE m.epoch m.ballot m.change)≠0 then dT K s (lE m.epoch m.ballot m.change)else m6 K from' m (vW (dT K s (lE m.epoch m.ballot m.change)) (fX s.acc m.epoch m.ballot m.change).1))
 else m6 K from' m s
def sa(s:MS δ)(from':Int)(m:MsgT):MS δ:=ez K (n6 K from' m) s from' m
def jg(s:MS δ)(m:MsgT):MS δ:=ii K s (m9 s.id m (λi=>ij s.view ((i:Nat):Int)) 5)
def jo(f:MS δ→MsgT→MS δ)(s:MS δ)(m:MsgT):MS δ:=if ij s.view s.id then f (jg K s m) m else jg K s m
def j5(s:MS δ)(vt:VoteT):MS δ:=jo K (λs m=>sa K s s.id m) s (iz s.view.epoch vt.ballot vt.change)
def oB(from':Int)(m:MsgT)(s:MS δ):MS δ:=match s.vote with
 |none=>s
 |some vt=>if(ey vt from' m.ballot m.had m.change).2 then j5 K (kE s (ey vt from' m.ballot m.had m.change).1) (ey vt from' m.ballot m.had m.change).1 else(kE s (ey vt from' m.ballot m.had m.change).1)
def p5(s:MS δ)(from':Int)(m:MsgT):MS δ:=ez K (oB K from' m) s from' m
def np(from':Int)(m:MsgT)(a:AccT)(s:MS δ):MS δ:=mA K (λs=>p5 K s s.id (j0 m.epoch m.ballot a.had a.change)) s from' (j0 m.epoch m.ballot a.had a.change)
def pd(from':Int)(m:MsgT)(s:MS δ):MS δ:=
 if(bP s.acc m.epoch m.ballot).2=false then s
 else if(bP s.acc m.epoch m.ballot).1.vow.flat≠s.acc.vow.flat then(if rc K s (gz m.epoch m.ballot)≠0 then dT K s (gz m.epoch m.ballot)else np K from' m (bP s.acc m.epoch m.ballot).1 (vW (dT K s (gz m.epoch m.ballot)) (bP s.acc m.epoch m.ballot).1))
 else np K from' m (bP s.acc m.epoch m.ballot).1 s
def sc(s:MS δ)(from':Int)(m:MsgT):MS δ:=ez K (pd K from' m) s from' m
def l4(s:MS δ)(vt:VoteT):MS δ:=jo K (λs m=>sc K s s.id m) s (ff s.view.epoch vt.ballot)
def m8(s:MS δ)(vt:VoteT):MS δ:=if vt.putting then j5 K s vt else l4 K s vt
def ei(s:MS δ):BallotT:=⟨fT (s.round+1),s.id⟩
def qo(s:MS δ)(c:ChangeT):MS δ:=kE (da (vW (dT K s (gz s.view.epoch (ei s))) (bP s.acc s.view.epoch (ei s)).1) (ei s).round) (iV s.view (ei s) c)
def ck(s:MS δ)(c:ChangeT):MS δ×Int:=
 if(bP s.acc s.view.epoch (ei s)).2=false then(s,6)else if rc K s (gz s.view.epoch (ei s))≠0 then(dT K s (gz s.view.epoch (ei s)),rc K s (gz s.view.epoch (ei s)))else(qo K s c,0)
def fg(s:MS δ)(c:ChangeT):Int:=if(dx s.view c).2=0∧s.vote.isSome=true then 8 else(dx s.view c).2
def dI(s:MS δ)(op:Int)(c:ChangeT):MS δ×Int:=
 if fg s c≠0 then(db s op (fg s c) 0,fg s c)
 else if(ck K s c).2≠0 then(db (ck K s c).1 op (ck K s c).2 0,(ck K s c).2)
 else(m8 K (db (ck K s c).1 op 0 0) (iV s.view (ei s) c),0)
def cV(s:MS δ)(o:OpT):RowT×Int×Int:=ia (s.rep .nil) o
def bq(s:MS δ):MS δ:= {s with ops:=fT (s.ops+1)}
def mS(s:MS δ)(o:OpT):MS δ×Int:=
 if(cV s o).2.2≠0∨o.kind=3 then(db s s.ops (cV s o).2.2 (cV s o).2.1,(cV s o).2.2)
 else if(eA K s (cV s o).1 s.ops).2≠0 then(db (eA K s (cV s o).1 s.ops).1 s.ops (eA K s (cV s o).1 s.ops).2 0,(eA K s (cV s o).1 s.ops).2)
 else((eA K s (cV s o).1 s.ops).1,0)
def bO(s:MS δ)(o:OpT):MS δ×Int:=if ij s.view s.id&&decide (o.kind=4)then dI K (bq s) (bq s).ops o.change else mS K (bq s) o
def fI(s:MS δ)(from':Int)(m:MsgT):MS δ:=
 if m.kind=0 then iv K s from' m else if m.kind=1 then dB K s from' m else if m.kind=2 then Dp s m.whose m.row
 else if m.kind=7 then gN K s m.view else if m.kind=8 then lO K s from' m else if m.kind=9 then fC K s from' m
 else if m.kind=3 then sc K s from' m else if m.kind=4 then p5 K s from' m else if m.kind=5 then sa K s from' m else if m.kind=6 then p3 K s from' m else s
def bR(s:MS δ):MS δ:=ql K (mg K (if s.busy=true then e8 K s else s))
def bZ(s:MS δ):MS δ:=if 1<s.view.epoch then mW K s s.view else s
def fH(s:MS δ):MS δ:=if 0< (ct s.book s.id).version then lN K s (ct s.book s.id)else s
def qU(s:MS δ):MS δ:=match s.vote with
 |none=>s
 |some vt=>if(dx s.view vt.change).2=0 then(if(ck K s vt.change).2=0 then m8 K (ck K s vt.change).1 (iV s.view (ei s) vt.change)else(ck K s vt.change).1)else s
def gU(s:MS δ):MS δ:=if ij (bZ K (bR K s)).view (bZ K (bR K s)).id then qU K (fH K (bZ K (bR K s)))else bZ K (bR K s)
def jc(s:MS δ)(m:RecT):MS δ:=
 if m.kind=0 then {s with own:=m.row,busy:=true,kept:=0}
 else if m.kind=1 then ib s m.whose m.row
 else if m.kind=2 then lj s m.whose
 else if m.kind=3 then {s with acc:= {s.acc with vow:=m.ballot},round:=max s.round m.ballot.round}
 else if m.kind=4 then {s with acc:= {s.acc with vow:=m.ballot,had:=m.ballot,change:=m.change},round:=max s.round m.ballot.round}
 else if m.kind=5 then ma s m.view
 else s
def kK:List (List UInt8)→MS δ→Option (MS δ)
 | [],s=>some s
 |b::bs,s=>if(mO b).2≠0 then none else kK bs (jc s (mO b).1)
def Cv(id:Int)(e:δ):MS δ:=⟨id, .zero, .zero, .zero, .zero,0,none, .zero,false,0,0,0,[], #v[0,0,0,0,0], #v[RowT.zero,RowT.zero,RowT.zero,RowT.zero,RowT.zero],e,[]⟩
def Af(id:Int)(e:δ):MS δ:=ma (Cv id e) firstV
theorem Ec{ls:List (List UInt8)}{k:Nat}{s:MS δ}(h:k<ls.length)(g:(mO ls[k]).2≠0):kK (ls.drop k) s=none:=by
 rw[df h,kK,if_pos g]
theorem FM{ls:List (List UInt8)}{k:Nat}{s:MS δ}(h:k<ls.length)(g: ¬(mO ls[k]).2≠0):kK (ls.drop k) s=kK (ls.drop (k+1)) (jc s (mO ls[k]).1):=by
 rw[df h,kK,if_neg g]
end Api
end

section
namespace Api
open Go Leg Codec Dsk Wal
theorem Az(m:RecT):(jq m).length≤3000:=by
 have h1:=gP m.row;have h2:=aU m.ballot.flat;have h4:=aU m.change.flat;have h5:=aU m.view.flat;have h6:=aU [m.kind,m.whose];have h8:=aU [m.kind,m.epoch];have h9:=aU [m.kind];simp only[BallotT.flat,ChangeT.flat,ViewT.flat,aw,az,ay]at h2 h4 h5 h6 h8 h9;unfold jq
 repeat' split
 all_goals first|omega| (simp only[af,BallotT.flat,ChangeT.flat,ViewT.flat,az];omega)
abbrev qC(n:Int):Prop:= -9223372036854775808≤n∧n<9223372036854775808
theorem mw{n:Int}(h:qC n):(Lit.int .i64 n).wf=true:=by
 have m1:IntKind.i64.min= -9223372036854775808:=by decide
 have m2:IntKind.i64.max=9223372036854775807:=by decide
 simp only[Lit.wf,m1,m2,ax,decide_eq_true_eq];omega
theorem kr(n:Int):qC (fT n):=by
 unfold fT qC;simp only[IntKind.wrap,IntKind.bits,IntKind.signed];simp;omega
structure CW(c:CellT):Prop where
 inn:qC c.inn
 out:qC c.out
 given: ∀(j:Nat) (h:j<5),qC c.given[j]
class OkRow(y:RowT):Prop where
 version:qC y.version
 cells: ∀(k:Nat) (h:k<4),CW y.cells[k]
 heir: ∀(i:Nat) (h:i<5),qC y.heir[i]
 left: ∀(i k:Nat) (h:i<5) (g:k<4),CW y.left[i][k]
theorem qN{α:Type}{n:Nat}{v:Vector α n}{x:α}(h:x∈v.toList): ∃(j:Nat) (h:j<n),x=v[j]:=by
 obtain⟨j,hj,rfl⟩:=eW h;rw[ay]at hj;exact⟨j,hj,by simp⟩
theorem C9{α:Type}{n:Nat}(v:Vector α n)(j:Nat)(h:j<n):v[j]∈v.toList:=by simp
theorem w6{m:Nat}{v:Vector CellT m}(h: ∀(k:Nat) (h:k<m),CW v[k]):WF (bL v.toList):=λn hn=>by
 obtain⟨c,hc,hn⟩:=jv.1 hn;obtain⟨k,hk,rfl⟩:=qN hc;simp only[CellT.flat,cf]at hn;rcases hn with rfl|rfl|hn
 · exact mw (h k hk).inn
 · exact mw (h k hk).out
 · obtain⟨j,hj,rfl⟩:=qN hn
   exact mw ((h k hk).given j hj)
theorem OkRow.wf{x:RowT}(h:OkRow x):WF x.flat:=λn hn=>by
 simp only[RowT.flat,cf,cq]at hn;rcases hn with rfl|hn|hn|hn
 · exact mw h.version
 · exact w6 h.cells n hn
 · obtain⟨j,hj,rfl⟩:=qN hn
   exact mw (h.heir j hj)
 · obtain⟨v,hv,hn⟩:=jv.1 hn
   obtain⟨j,hj,rfl⟩:=qN hv;exact w6 (λk hk=>h.left j k hj hk) n hn
abbrev KY:= @OkRow.wf
theorem CW.of{m:Nat}{v:Vector CellT m}(h:WF (bL v.toList))(k:Nat)(hk:k<m):CW v[k]:=by
 have q: ∀n∈v[k].flat,qC n:=λn hn=>zk (h n (jv.2 ⟨_,C9 v k hk,hn⟩))
 exact⟨q _ (by simp[CellT.flat]),q _ (by simp[CellT.flat]),λj hj=>q _ (by simp[CellT.flat])⟩
theorem OkRow.of{x:RowT}(h:WF x.flat):OkRow x:=
 ⟨zk (h _ (by simp[RowT.flat])),CW.of λn hn=>h n (by simp[RowT.flat,hn]),λi hi=>zk (h _ (by simp[RowT.flat])),
  λi k hi hk=>CW.of (λn hn=>h n (by simp only[RowT.flat,cf,cq,jv];exact .inr (.inr (.inr ⟨_,C9 x.left i hi,hn⟩)))) k hk⟩
class OkVw(v:ViewT):Prop where
 rng:Rng v
 wf:WF v.flat
class OkVt(v:VoteT):Prop where
 view:OkVw v.view
 ballot:WF v.ballot.flat
 change:WF v.change.flat
 best:WF v.best.flat
class OkMg(m:MsgT):Prop where
 row:OkRow m.row
 view:OkVw m.view
 ballot:WF m.ballot.flat
 had:WF m.had.flat
 change:WF m.change.flat
variable {δ:Type}
class OkR(K:outParam (Dk δ))(s:MS δ):Prop where
 e:K.ok s.e
 id:cD s.id=true
 view:OkVw s.view
 own:OkRow s.own
 mir: ∀(i:Nat) (h:i<5),OkRow s.mirror.rows[i]
 book: ∀(i:Nat) (h:i<5),OkRow s.book.rows[i]
 last: ∀(i:Nat) (h:i<5),OkRow s.last[i]
 acc:WF s.acc.flat
 vote: ∀vt,s.vote=some vt→OkVt vt
variable {K:Dk δ}
instance OkRow.zero:OkRow RowT.zero:=OkRow.of tame_rzero.wf
theorem CW.zero:CW .zero:=⟨by decide,by decide,λj hj=>by
 match j,hj with
 |0,_|1,_|2,_|3,_|4,_=>exact⟨(by decide:(-9223372036854775808:Int)≤0),(by decide:(0:Int)<9223372036854775808)⟩⟩
instance {s:MS δ}[h:OkR K s]:OkRow s.own:=h.own
instance {s:MS δ}[h:OkR K s]:OkVw s.view:=h.view
instance {m:MsgT}[h:OkMg m]:OkRow m.row:=h.row
instance {m:MsgT}[h:OkMg m]:OkVw m.view:=h.view
theorem nA{α:Type}{n:Nat}{p:α→Prop}{v:Vector α n}{i:Nat}(hi:i<n){x:α}(h: ∀(j:Nat) (hj:j<n),p v[j])(hx:p x)(j:Nat)(hj:j<n):p (v.set i x hi)[j]:=by
 rw[Vector.getElem_set];split
 · exact hx
 · exact h j hj
instance {s:MS δ}[h:OkR K s](w:Int):OkRow (dW s.mirror w):=by unfold dW;split;exact h.mir _ _;exact .zero
instance {s:MS δ}[h:OkR K s](w:Int):OkRow (ct s.book w):=by unfold ct;split;exact h.book _ _;exact .zero
instance {s:MS δ}[h:OkR K s](w:Int):OkRow (mM s w):=by unfold mM;split;exact h.last _ _;exact .zero
theorem sG{x:RowT}[h:OkRow x](key:Int):CW (dy x key):=by unfold dy;split;exact h.cells _ _;exact .zero
theorem EP{x:RowT}[h:OkRow x](i:Int):qC (fu x i):=by unfold fu;split;exact h.heir _ _;exact⟨by decide,by decide⟩
theorem EE{x:RowT}[h:OkRow x](i:Int)(k:Nat)(hk:k<4):CW (vn x i)[k]:=by unfold vn;split;exact h.left _ _ _ _;exact OkRow.zero.cells k hk
theorem ve{x:RowT}[h:OkRow x]{key n counts:Int}{c:CellT}(hc:CW c):OkRow (j6 x key n counts c).1:=by
 unfold j6;split
 · exact .zero
 · refine⟨kr _,λk hk=>?_,λi hi=>?_,λi k hi hk=>?_⟩
   · show CW (ky x key c).cells[k]
     unfold ky;split
     · exact nA (p:=CW) (yL (by assumption)) h.cells hc k hk
     · exact h.cells k hk
   · show qC (ky x key c).heir[i]
     unfold ky;split<;>exact h.heir i hi
   · show CW (ky x key c).left[i][k]
     unfold ky;split<;>exact h.left i k hi hk
instance {x:RowT}[OkRow x](key n:Int):OkRow (nH x key n).1:=by
 unfold nH;split
 · have:=sG (x:=x) key
   exact ve ⟨kr _,this.out,this.given⟩
 · exact .zero
instance {x:RowT}[OkRow x](key n:Int):OkRow (nI x key n).1:=by
 unfold nI;split
 · have:=sG (x:=x) key
   exact ve ⟨this.inn,kr _,this.given⟩
 · exact .zero
instance {x:RowT}[OkRow x](key n to':Int):OkRow (kx x key n to').1:=by
 unfold kx;split
 · have:=sG (x:=x) key
   refine ve ?_;unfold vz;split
   · exact⟨this.inn,this.out,nA (p:=qC) (e6 (by assumption)) this.given (kr _)⟩
   · exact this
 · exact .zero
theorem uB{x:RowT}(h:OkRow x){w v:Int}{l:Vector CellT 4}(hv:qC v)(hl: ∀(k:Nat) (h:k<4),CW l[k]):OkRow (nF x w v l):=by
 unfold nF;split
 · exact⟨h.version,h.cells,nA (p:=qC) (e6 (by assumption)) h.heir hv,λi k hi hk=>nA (p:=λu:Vector CellT 4=>CW u[k]) (e6 (by assumption)) (λj hj=>h.left j k hj hk) (hl k hk) i hi⟩
 · exact h
instance {x d:RowT}[h:OkRow x][g:OkRow d](who:Int):OkRow (dD x who d).1:=by
 have q: ∀k,OkRow (nh x who d k):=λk=>by
  induction k with
  |zero=>exact uB h (kr _) g.cells
  |succ k ih=>
   have e:nh x who d (k+1)=mD who d (nh x who d k) k:=by unfold nh;rw[cO,eD];rfl
   rw[e];unfold mD;split
   · exact uB ih (EP _) (EE _)
   · exact ih
 unfold dD;split
 · exact .zero
 split
 · exact .zero
 · exact⟨kr _,(q 5).cells,(q 5).heir,(q 5).left⟩
instance {s:MS δ}[h:OkR K s](l:List Int):OkRow (oX s l):=by
 have: ∀(l:List Int) (x:RowT),OkRow x→OkRow (l.foldl (λx i=>if 0<fu x i then x else(dD x i (mM s i)).1) x):=λl=>by
  induction l with
  |nil=>exact λx hx=>hx
  |cons i l ih=>exact λx hx=>ih _ (by dsimp only;split;exact hx;exact inferInstance)
 exact this l _ h.own
instance {s:MS δ}[h:OkR K s](o:OpT):OkRow (cV s o).1:=by
 have:OkRow (fW (s.rep .nil) o).1:=by
  unfold fW
  repeat' split
  all_goals first|exact .zero|exact inferInstanceAs (OkRow (nH s.own _ _).1)|exact inferInstanceAs (OkRow (nI s.own _ _).1)|exact inferInstanceAs (OkRow (kx s.own _ _ _).1)
 unfold cV ia
 repeat' split
 all_goals first|exact .zero|exact this
theorem vu{l:List Int}{k:Nat}(h:k<l.length):(ints l)[k]?=some (.int .i64 (l.getD k 0)):=by simp[ints,h,List.getD_eq_getElem?_getD]
theorem nS(s:MS δ)(k:Nat):gE s (k+1)=gE s k++(if AA s k then [((k:Nat):Int)]else []):=by
 unfold gE;rw[cO,List.filter_append,cr]
 by_cases h:AA s k=true<;>simp[h]
theorem uA(b:Int)(k:Nat):kg b (k+1)=kg b k++(if E5 b ((k:Nat):Int)then [((k:Nat):Int)]else []):=by
 unfold kg;rw[cO,List.filter_append,cr]
 by_cases h:E5 b ((k:Nat):Int)=true<;>simp[h]
theorem sh(b:Int)(k:Nat):(kg b k).length≤k:=by
 unfold kg;rw[bH];exact nr (zb _ _) (by simp)
theorem sC{v:ViewT}{w i:Int}(h:(kT v w).isSome=true)(g:(kT v w).getD 0=i):kT v w=some i:=by
 cases q:kT v w with
 |none=>rw[q]at h;cases h
 |some z=>rw[q]at g;rw[←g];rfl
theorem yQ{s:MS δ}{k:Nat}(h:AA s k=true):kT s.view ((k:Nat):Int)=some s.id∧fu s.own ((k:Nat):Int)≤0:=by
 unfold AA at h;rw[ax,decide_eq_true_iff,decide_eq_true_iff]at h;exact h
theorem I5{s:MS δ}{k:Nat}(h1:(kT s.view ((k:Nat):Int)).isSome=true)(h2:(kT s.view ((k:Nat):Int)).getD 0=s.id)(h3:fu s.own ((k:Nat):Int)≤0):AA s k=true:=by
 unfold AA;rw[ax,decide_eq_true_iff,decide_eq_true_iff];refine⟨?_,h3⟩;cases q:kT s.view ((k:Nat):Int)with
 |none=>rw[q]at h1;cases h1
 |some z=>rw[q]at h2;rw[←h2];rfl
theorem EU(s:MS δ)(k:Nat):(gE s k).length≤k:=by
 unfold gE;rw[bH];exact nr (zb _ _) (by simp)
theorem I1{x d:RowT}{who:Int}(h:cD who=true)(h2: ¬0<fu x who):(dD x who d).2=0:=by
 rw[dD,h,if_neg (by decide),if_neg h2]
theorem AR(K:Dk δ){l:List Int}{q:Nat}(h:q<l.length)(s:MS δ):fB K (l.take (q+1)) s=o9 K (fB K (l.take q) s) (l.getD q 0):=by
 unfold fB;rw[bV h,eD,List.getD_eq_getElem?_getD,List.getElem?_eq_getElem h];rfl
theorem s8(s:MS δ){l:List Int}{q:Nat}(h:q<l.length):oX s (l.take (q+1))=(if 0<fu (oX s (l.take q)) (l.getD q 0)then oX s (l.take q)else(dD (oX s (l.take q)) (l.getD q 0) (mM s (l.getD q 0))).1):=by
 unfold oX;rw[bV h,eD,List.getD_eq_getElem?_getD,List.getElem?_eq_getElem h];rfl
theorem vF{s:MS δ}{i:Int}(h:i∈br s):cD i=true∧kT s.view i=some s.id∧fu s.own i≤0:=by
 unfold br gE at h;rw[eC]at h;obtain⟨k,hk,rfl⟩:=h;rw[List.mem_filter,eI]at hk;have h2:=hk.2;unfold AA at h2;rw[ax,decide_eq_true_iff,decide_eq_true_iff]at h2;exact⟨decide_eq_true ⟨by omega,by omega⟩,h2.1,h2.2⟩
theorem fZ(x:RowT){k:Nat}(h:k<5):fu x ((k:Nat):Int)=x.heir[k]:=by
 rw[fu,dif_pos (show cD ((k:Nat):Int)=true from decide_eq_true ⟨by omega,by omega⟩)];rfl
theorem Fi(w:Int):(gv w).length≤1000000:=by unfold gv;split<;>simp
theorem Da{k:Nat}(h:k<5):cD ((k:Nat):Int)=true:=decide_eq_true ⟨by omega,by omega⟩
theorem EG(x:RowT){k:Nat}(h:k<5):vn x ((k:Nat):Int)=x.left[k]:=by
 rw[vn,dif_pos (Da h)];rfl
theorem Bs(x:RowT){k:Nat}(h:k<5)(v:Int)(l:Vector CellT 4):nF x ((k:Nat):Int) v l= {x with heir:=x.heir.set k v h,left:=x.left.set k l h}:=by
 rw[nF,dif_pos (Da h)];rfl
theorem nQ(x:RowT)(who:Int)(dead:RowT)(k:Nat):nh x who dead (k+1)=mD who dead (nh x who dead k) k:=by unfold nh;rw[cO,eD];rfl
instance OkVw.first:OkVw firstV:=⟨Rng.first,λn hn=>by
 have h:n∈[(1:Int),7,0,0,0,0,0]:=hn;simp only[cf,List.not_mem_nil,or_false,or_self]at h
 rcases h with rfl|rfl|rfl<;>decide⟩
instance OkVw.zero:OkVw ViewT.zero:=⟨Rng.zero,λn hn=>by
 have h:n∈[(0:Int),0,0,0,0,0,0]:=hn;simp only[cf,List.not_mem_nil,or_false,or_self]at h
 rcases h with rfl;decide⟩
theorem Bg{v:ViewT}(h1:qC v.epoch)(h2:qC v.members)(hr:Rng v):WF v.flat:=λn hn=>by
 simp only[ViewT.flat,cf]at hn;rcases hn with rfl|rfl|hn
 · exact mw h1
 · exact mw h2
 · obtain⟨j,hj,rfl⟩:=qN hn
   have:=hr j hj;exact mw ⟨by omega,by omega⟩
theorem qG(n:Int):qC (IntKind.i64.wrap n):=kr n
instance OkVw.next{v:ViewT}[h:OkVw v](c:ChangeT):OkVw (dx v c).1:=by
 unfold dx;split
 · exact .zero
 split
 · split
   · exact .zero
   · exact⟨h.rng,Bg (qG _) (qG _) h.rng⟩
 split
 · split
   · exact .zero
   · have hr:Rng ⟨IntKind.i64.wrap (v.epoch+1),lL .i64 v.members (2^c.who.toNat),qg v c⟩:=λi hi=>by
      show 0≤(qg v c)[i]∧(qg v c)[i]≤5;unfold qg;rw[Vector.getElem_mapIdx];unfold sz;split
      · have hm:cD c.heir=true:=by
         rename_i q _ _ _ _;simp only[Jf,Bool.not_eq_true',not_or,Bool.not_eq_false]at q;exact q.2
        have hm2:0≤c.heir∧c.heir<5:=of_decide_eq_true hm;omega
      · exact h.rng i hi
     exact⟨hr,Bg (qG _) (qG _) hr⟩
 · exact .zero
theorem GH{b:BallotT}(h1:qC b.round)(h2:qC b.who):WF b.flat:=λn hn=>by
 have h:n∈[b.round,b.who]:=hn;simp only[cf,List.not_mem_nil,or_false]at h;rcases h with rfl|rfl
 · exact mw h1
 · exact mw h2
theorem gq:WF BallotT.zero.flat:=GH (by decide) (by decide)
theorem oh:WF ChangeT.zero.flat:=λn hn=>by
 have h:n∈[(0:Int),0,0]:=hn;simp only[cf,List.not_mem_nil,or_false,or_self]at h;rcases h with rfl;decide
instance OkMg.sealed(w:Int)(y:RowT)[h:OkRow y]:OkMg (gB w y):=⟨h, .zero,gq,gq,oh⟩
instance OkMg.seal(w:Int)(v:ViewT)[h:OkVw v]:OkMg (nG w v):=⟨.zero,h,gq,gq,oh⟩
section
variable {s:MS δ}
instance [h:OkR K s](l:List SaidT):OkR K (ii K s l):=⟨h.e,h.id,h.view,h.own,h.mir,h.book,h.last,h.acc,h.vote⟩
instance {p:Prop}[Decidable p]{a b:MS δ}[ha:OkR K a][hb:OkR K b]:OkR K (if p then a else b):=by split;exact ha;exact hb
instance {f:MS δ→MS δ}{t:Int}{m:MsgT}[h:OkR K s][hf:OkR K (f s)]:OkR K (mA K f s t m):=by
 unfold mA;split
 · exact hf
 · exact⟨h.e,h.id,h.view,h.own,h.mir,h.book,h.last,h.acc,h.vote⟩
instance [h:OkR K s](t:Int)(m:MsgT):OkR K (Bw K s t m):=inferInstanceAs (OkR K (ii K s _))
instance [h:OkR K s](r:RecT):OkR K (dT K s r):=⟨K.sure _ _ h.e (Az r),h.id,h.view,h.own,h.mir,h.book,h.last,h.acc,h.vote⟩
instance [h:OkR K s](a b c:Int):OkR K (db s a b c):=⟨h.e,h.id,h.view,h.own,h.mir,h.book,h.last,h.acc,h.vote⟩
instance [h:OkR K s]:OkR K (bq s):=⟨h.e,h.id,h.view,h.own,h.mir,h.book,h.last,h.acc,h.vote⟩
instance [h:OkR K s](f:Int):OkR K (ic s f):=⟨h.e,h.id,h.view,h.own,h.mir,h.book,h.last,h.acc,h.vote⟩
instance [h:OkR K s]:OkR K (lw s):=⟨h.e,h.id,h.view,h.own,h.mir,h.book,h.last,h.acc,h.vote⟩
theorem xq{b:BookT}{w:Int}{x:RowT}(h: ∀(i:Nat) (h:i<5),OkRow b.rows[i])(hx:OkRow x): ∀(i:Nat) (h:i<5),OkRow (fp b w x).1.rows[i]:=by
 unfold fp;split
 · unfold yw
   split
   · exact nA (p:=OkRow) (e6 (by assumption)) h hx
   · exact h
 · exact h
instance OkR.merge[h:OkR K s](w:Int)(x:RowT)[hx:OkRow x]:OkR K (Dp s w x):=⟨h.e,h.id,h.view,h.own,h.mir,xq h.book hx,h.last,h.acc,h.vote⟩
instance [h:OkR K s]:OkR K (gl s):=⟨h.e,h.id,h.view,h.own,h.mir,xq h.book h.own,h.last,h.acc,h.vote⟩
theorem BO{b:MirT}{w:Int}{x:RowT}(h: ∀(i:Nat) (h:i<5),OkRow b.rows[i])(hx:OkRow x): ∀(i:Nat) (h:i<5),OkRow (lI b w x).1.rows[i]:=by
 unfold lI;split
 · unfold yJ
   split
   · exact nA (p:=OkRow) (e6 (by assumption)) h hx
   · exact h
 · exact h
instance [h:OkR K s](w:Int)(x:RowT)[hx:OkRow x]:OkR K (ib s w x):=⟨h.e,h.id,h.view,h.own,BO h.mir hx,h.book,h.last,h.acc,h.vote⟩
instance [h:OkR K s](w:Int):OkR K (lj s w):=⟨h.e,h.id,h.view,h.own,λi hi=>by
 show OkRow (nf s.mirror w).rows[i]
 unfold nf;split<;>exact h.mir i hi,h.book,h.last,h.acc,h.vote⟩
instance [h:OkR K s](x:RowT)[hx:OkRow x](op:Int):OkR K (s9 s x op):=⟨h.e,h.id,h.view,hx,h.mir,h.book,h.last,h.acc,h.vote⟩
instance [OkR K s]:OkR K (e8 K s):=inferInstanceAs (OkR K (ii K s _))
instance [OkR K s](y:RowT):OkR K (lN K s y):=inferInstanceAs (OkR K (ii K s _))
instance [OkR K s](v:ViewT):OkR K (mW K s v):=inferInstanceAs (OkR K (ii K s _))
instance [OkR K s](m:MsgT):OkR K (jg K s m):=inferInstanceAs (OkR K (ii K s _))
instance [OkR K s](x:RowT)[OkRow x](op:Int):OkR K (eA K s x op).1:=by unfold eA;split<;>exact inferInstance
instance [h:OkR K s]:OkR K (mg K s):=by
 unfold mg;split
 · exact h
 split
 · exact inferInstance
 · exact h
instance [OkR K s]:OkR K (kU K s):=by unfold kU;exact inferInstance
instance [h:OkR K s](f:Int)(m:MsgT):OkR K (dB K s f m):=by
 unfold dB
 repeat' split
 all_goals exact inferInstance
instance [h:OkR K s](f:Int)(m:MsgT)[OkMg m]:OkR K (iv K s f m):=by
 unfold iv
 repeat' split
 all_goals exact inferInstance
theorem Ha{v:Vector RowT 5}{w:Int}{x:RowT}(h: ∀(i:Nat) (h:i<5),OkRow v[i])(hx:OkRow x): ∀(i:Nat) (h:i<5),OkRow (zM v w x)[i]:=by
 unfold zM;split
 · exact nA (p:=OkRow) (e6 (by assumption)) h hx
 · exact h
instance [h:OkR K s](w:Int)(x:RowT)[hx:OkRow x]:OkR K (kR s w x):=⟨h.e,h.id,h.view,h.own,h.mir,h.book,by
 show ∀(i:Nat) (h:i<5),OkRow (if pY s w=0∨(mM s w).version<x.version then zM s.last w x else s.last)[i];split
 · exact Ha h.last hx
 · exact h.last,h.acc,h.vote⟩
instance [OkR K s](f w:Int)(y:RowT)[OkRow y]:OkR K (uj s f w y):=by
 have h:OkR K (kR s w y):=inferInstance;exact⟨h.e,h.id,h.view,h.own,h.mir,h.book,h.last,h.acc,h.vote⟩
instance [h:OkR K s](f:Int)(m:MsgT)[OkMg m]:OkR K (fC K s f m):=by unfold fC;split<;>exact inferInstance
theorem uF[OkR K s]{f:MS δ→MS δ}(hf:OkR K (f s))(t:Int)(m:MsgT):OkR K (mA K f s t m):=by unfold mA;split;exact hf;exact inferInstance
instance [h:OkR K s](f w:Int):OkR K (fe K s f w):=by
 unfold fe
 repeat' split
 · exact h
 · exact uF inferInstance _ _
 · exact inferInstance
 · exact uF inferInstance _ _
instance [h:OkR K s](i w:Int):OkR K (gF K s i w):=by
 unfold gF;split
 · exact h
 · exact uF inferInstance _ _
instance [OkR K s](i:Int):OkR K (o9 K s i):=by unfold o9;exact inferInstance
theorem sF: ∀(l:List Int) (s:MS δ),OkR K s→OkR K (fB K l s)
 | [],_,h=>h
 |i::l,s,h=>sF l (o9 K s i) inferInstance
instance [h:OkR K s]:OkR K (ql K s):=sF _ _ h
theorem KS(n:Int)(h:qC n):WF ({AccT.zero with epoch:=n}:AccT).flat:=λk hk=>by
 have q:k∈[n,0,0,0,0,0,0,0]:=hk;simp only[cf,List.not_mem_nil,or_false,or_self]at q;rcases q with rfl|rfl
 · exact mw h
 · decide
instance [h:OkR K s](v:ViewT)[hv:OkVw v]:OkR K (ma s v):=⟨h.e,h.id,hv,h.own,h.mir,h.book,h.last,KS _ (zk (hv.wf _ (by simp[ViewT.flat]))),λ_ e=>nomatch e⟩
instance [h:OkR K s](v:ViewT)[OkVw v]:OkR K (gN K s v):=by
 unfold gN
 repeat' split
 all_goals exact inferInstance
instance [h:OkR K s](f:Int)(m:MsgT)[OkMg m]:OkR K (lO K s f m):=by unfold lO;exact inferInstance
instance [h:OkR K s](c:ChangeT):OkR K (kC K s c):=by
 unfold kC
 repeat' split
 all_goals exact inferInstance
class OkAc(a:AccT):Prop where wf:WF a.flat
instance [h:OkR K s]:OkAc s.acc:=⟨h.acc⟩
theorem mT{a b:List Int}(h:WF (a++b)):WF a:=λn hn=>h n (List.mem_append_left _ hn)
theorem rV{a b:List Int}(h:WF (a++b)):WF b:=λn hn=>h n (My _ hn)
theorem OkAc.vow{a:AccT}(h:OkAc a):WF a.vow.flat:=rV (mT (mT h.wf))
theorem OkAc.had{a:AccT}(h:OkAc a):WF a.had.flat:=rV (mT h.wf)
theorem OkAc.change{a:AccT}(h:OkAc a):WF a.change.flat:=rV h.wf
theorem OkAc.epoch{a:AccT}(h:OkAc a):WF [a.epoch]:=mT (mT (mT h.wf))
theorem OkAc.ask{a:AccT}(h:OkAc a){ep:Int}{b:BallotT}(hb:WF b.flat):OkAc (bP a ep b).1:=by
 unfold bP;split
 · exact h
 · exact⟨ld (ld (ld h.epoch hb) h.had) h.change⟩
theorem OkAc.put{a:AccT}(h:OkAc a){ep:Int}{b:BallotT}{c:ChangeT}(hb:WF b.flat)(hc:WF c.flat):OkAc (fX a ep b c).1:=by
 unfold fX;split
 · exact h
 · exact⟨ld (ld (ld h.epoch hb) hb) hc⟩
instance [h:OkR K s](n:Int):OkR K (da s n):=⟨h.e,h.id,h.view,h.own,h.mir,h.book,h.last,h.acc,h.vote⟩
instance [h:OkR K s](v:VoteT)[hv:OkVt v]:OkR K (kE s v):=⟨h.e,h.id,h.view,h.own,h.mir,h.book,h.last,h.acc,λ_ e=>cN e▸hv⟩
instance [h:OkR K s](a:AccT)[ha:OkAc a]:OkR K (vW s a):=⟨h.e,h.id,h.view,h.own,h.mir,h.book,h.last,ha.wf,h.vote⟩
instance {v:VoteT}[h:OkVt v]{m:MsgT}[hm:OkMg m](w:Int):OkVt (ey v w m.ballot m.had m.change).1:=by
 unfold ey;split
 · exact h
 · unfold ui
   split
   · exact⟨h.view,h.ballot,hm.change,hm.had⟩
   · exact⟨h.view,h.ballot,h.change,h.best⟩
instance {v:VoteT}[h:OkVt v](w:Int)(b:BallotT):OkVt (fV v w b).1:=by
 unfold fV;split
 · exact h
 · exact⟨h.view,h.ballot,h.change,h.best⟩
instance {m:MsgT}[hm:OkMg m][h:OkR K s](ep:Int):OkAc (bP s.acc ep m.ballot).1:=OkAc.ask ⟨h.acc⟩ hm.ballot
instance {m:MsgT}[hm:OkMg m][h:OkR K s](ep:Int):OkAc (fX s.acc ep m.ballot m.change).1:=OkAc.put ⟨h.acc⟩ hm.ballot hm.change
instance tookF_ok[h:OkR K s](f:Int)(m:MsgT):OkR K (kG K f m s):=by
 unfold kG;split
 · exact h
 · rename_i vt hv
   have:=h.vote vt hv;split<;>exact inferInstance
theorem qL[h:OkR K s]{f:MS δ→MS δ}(hf: ∀s:MS δ,OkR K s→OkR K (f s))(w:Int)(m:MsgT):OkR K (ez K f s w m):=by
 unfold ez
 repeat' split
 · exact inferInstance
 · exact h
 · exact h
 · exact hf _ inferInstance
instance [OkR K s](w:Int)(m:MsgT):OkR K (p3 K s w m):=qL (λ_ _=>inferInstance) w m
instance [h:OkR K s](w:Int)(m:MsgT):OkR K (m6 K w m s):=by unfold m6;exact inferInstance
instance [h:OkR K s](w:Int)(m:MsgT)[OkMg m]:OkR K (n6 K w m s):=by
 unfold n6
 repeat' split
 all_goals exact inferInstance
instance [OkR K s](w:Int)(m:MsgT)[OkMg m]:OkR K (sa K s w m):=qL (λ_ _=>inferInstance) w m
instance OkMg.putM(ep:Int){vt:VoteT}[h:OkVt vt]:OkMg (iz ep vt.ballot vt.change):=⟨.zero, .zero,h.ballot,gq,h.change⟩
instance OkMg.askM(ep:Int){vt:VoteT}[h:OkVt vt]:OkMg (ff ep vt.ballot):=⟨.zero, .zero,h.ballot,gq,oh⟩
instance OkMg.takenM(ep:Int){m:MsgT}[h:OkMg m]:OkMg (jl ep m.ballot):=⟨.zero, .zero,h.ballot,gq,oh⟩
theorem OkMg.promM(ep:Int){m:MsgT}[h:OkMg m]{a:AccT}(ha:OkAc a):OkMg (j0 ep m.ballot a.had a.change):=⟨.zero, .zero,h.ballot,ha.had,ha.change⟩
theorem sV[h:OkR K s]{f:MS δ→MsgT→MS δ}{m:MsgT}(hf: ∀s:MS δ,OkR K s→OkR K (f s m)):OkR K (jo K f s m):=by
 unfold jo;split
 · exact hf _ inferInstance
 · exact inferInstance
instance [h:OkR K s](vt:VoteT)[OkVt vt]:OkR K (j5 K s vt):=sV λ_ _=>inferInstance
instance [h:OkR K s](f:Int)(m:MsgT)[OkMg m]:OkR K (oB K f m s):=by
 unfold oB;split
 · exact h
 · rename_i vt hv
   have:=h.vote vt hv;split<;>exact inferInstance
instance [OkR K s](w:Int)(m:MsgT)[OkMg m]:OkR K (p5 K s w m):=qL (λ_ _=>inferInstance) w m
theorem vT[h:OkR K s](w:Int)(m:MsgT)[OkMg m]{a:AccT}(ha:OkAc a):OkR K (np K w m a s):=by
 have:=OkMg.promM m.epoch (m:=m) ha;unfold np;exact inferInstance
instance [h:OkR K s](w:Int)(m:MsgT)[OkMg m]:OkR K (pd K w m s):=by
 unfold pd
 repeat' split
 · exact h
 · exact inferInstance
 · exact vT w m inferInstance
 · exact vT w m inferInstance
instance [OkR K s](w:Int)(m:MsgT)[OkMg m]:OkR K (sc K s w m):=qL (λ_ _=>inferInstance) w m
instance [h:OkR K s](vt:VoteT)[OkVt vt]:OkR K (l4 K s vt):=sV λ_ _=>inferInstance
instance [h:OkR K s](vt:VoteT)[OkVt vt]:OkR K (m8 K s vt):=by unfold m8;split<;>exact inferInstance
theorem Be{v:VoteT}{w:Int}{b had:BallotT}{c:ChangeT}(h:(ey v w b had c).2=true):(ey v w b had c).1.putting=true:=by
 unfold ey at h ⊢;split
 · rename_i q;rw[if_pos q]at h;cases h
 · rename_i q;rw[if_neg q]at h;exact h
theorem Fq(s:MS δ)[h:OkR K s]:WF (ei s).flat:=GH (kr _) (by have:0≤s.id∧s.id<5:=of_decide_eq_true h.id;exact⟨by show _≤s.id;omega,by show s.id<_;omega⟩)
class OkCh(c:ChangeT):Prop where wf:WF c.flat
instance newVote_ok[h:OkR K s](c:ChangeT)[hc:OkCh c]:OkVt (iV s.view (ei s) c):=⟨h.view,Fq s,hc.wf,gq⟩
instance {vt:VoteT}[h:OkVt vt]:OkCh vt.change:=⟨h.change⟩
instance [h:OkR K s](c:ChangeT)[OkCh c]:OkR K (qo K s c):=by
 have:OkAc (bP s.acc s.view.epoch (ei s)).1:=OkAc.ask ⟨h.acc⟩ (Fq s);unfold qo;exact inferInstance
instance [h:OkR K s](c:ChangeT)[OkCh c]:OkR K (ck K s c).1:=by
 unfold ck
 repeat' split
 all_goals exact inferInstance
theorem qn{c:ChangeT}(h:(ck K s c).2=0):(ck K s c).1.vote=some (iV s.view (ei s) c):=by
 unfold ck at h ⊢
 by_cases h1:(bP s.acc s.view.epoch (ei s)).2=false
 · rw[if_pos h1]at h;cases h
 by_cases h2:rc K s (gz s.view.epoch (ei s))≠0
 · rw[if_neg h1,if_pos h2]at h;exact absurd h h2
 · rw[if_neg h1,if_neg h2];rfl
instance [h:OkR K s](op:Int)(c:ChangeT)[OkCh c]:OkR K (dI K s op c).1:=by
 unfold dI
 repeat' split
 all_goals exact inferInstance
instance [h:OkR K s](o:OpT):OkR K (mS K s o).1:=by
 unfold mS
 repeat' split
 all_goals exact inferInstance
instance [h:OkR K s](o:OpT)[OkCh o.change]:OkR K (bO K s o).1:=by unfold bO;split<;>exact inferInstance
instance [h:OkR K s]:OkR K (bR K s):=by unfold bR;exact inferInstance
instance [h:OkR K s]:OkR K (bZ K s):=by unfold bZ;exact inferInstance
instance [h:OkR K s]:OkR K (fH K s):=by unfold fH;exact inferInstance
instance [h:OkR K s]:OkR K (qU K s):=by
 unfold qU;split
 · exact h
 · rename_i vt hv
   have:=h.vote vt hv
   repeat' split
   all_goals exact inferInstance
instance [h:OkR K s]:OkR K (gU K s):=by unfold gU;exact inferInstance
instance [h:OkR K s](f:Int)(m:MsgT)[OkMg m]:OkR K (fI K s f m):=by
 unfold fI
 repeat' split
 all_goals exact inferInstance
theorem hO(s:MS δ)(c:ChangeT):(ck K s c).1.replies=s.replies:=by
 unfold ck;split
 · rfl
 · split<;>rfl
theorem iW(s:MS δ)(x:RowT)(op:Int):(eA K s x op).1.replies=s.replies:=by unfold eA;split<;>rfl
end
end Api
end

section
namespace Leg
open Go Codec Api Go.Conc
section
variable {P:Program} {w0:World} {F:Hl} {n:Nat} {ops:Array Oper} {Q:QQ} {is:List Nat} {D:List Deferred} {L:List (Nat×Value)} {H:List HP} {i d:Nat} {o:Oper}
theorem TX.recv1{x:Operand}{t e:TypeId}{dir:ChanDir}{c cap s r:Nat}{z v:Value}{vs vs0:List Value}(k:Nat)(ho:ops[i]?=some o)(hw:Want n D ops o L)(hop:o.op= .recv t x false)(hd:o.dst=some d)(hn:Nat.blt d n=true)(ht:P.underlying t=some (.chan dir e))(hz:(P.info? e).map (·.zero)=some (some z))
 (hx:cI L x=some (.chan (some c))) (hk:Nat.blt k H.length=true) (hH:H.getD k (λ_=>True)=dO c cap vs0 s r) (he:vs0=v::vs)
 (h:TX P w0 F n ops Q is D ((d,v)::L) (H.set k (dO c cap vs s (r+1)))):TX P w0 F n ops Q (i::is) D L H:=λa w f sm m=>by
 subst he;have hc:=m.chan k hk hH
 have hr:(execOp a.eval o).run P w= .ok (.comm #[{chan:= .chan (some c),send:=none,zero:=z}] true (.recv false)) w:=by
  simp[execOp,hop,f.eval hx,Sem.run_bind,run_underlying ht,m3 hz]
 refine Jj (v:=v) (w2:=w.setChan c cap vs.toArray false s (r+1) false) ho (hw a f) hr (λfr cs es hs=>?_) ?_
 · have:=step_lone_recv_buf false hs hc (by simp)
   rw[this];simp[got]
 · rw[hd]
   exact h _ _ (f.put (lb hn) _) (sm.setChan ..) (m.setChan k hk hH)
theorem TX.send1{x y:Operand}{c cap s r:Nat}{v:Value}{vs:List Value}(k:Nat)(ho:ops[i]?=some o)(hw:Want n D ops o L)(hop:o.op= .send x y)(hd:o.dst=none)
 (hx:cI L x=some (.chan (some c))) (hy:cI L y=some v) (hk:Nat.blt k H.length=true) (hH:H.getD k (λ_=>True)=dO c cap vs s r) (hroom:vs.length<cap)
 (h:TX P w0 F n ops Q is D L (H.set k (dO c cap (vs++[v]) (s+1) r))):TX P w0 F n ops Q (i::is) D L H:=λa w f sm m=>by
 have hc:=m.chan k hk hH
 have hr:(execOp a.eval o).run P w= .ok (.comm #[{chan:= .chan (some c),send:=some v,zero:= .tuple #[]}] true .send) w:=by
  simp[execOp,hop,f.eval hx,f.eval hy,Sem.run]
 refine Jj (v:=undef) (w2:=w.setChan c cap (vs++[v]).toArray false (s+1) r false) ho (hw a f) hr (λfr cs es hs=>?_) ?_
 · have:=step_lone_send_room hs hc (by simpa using hroom)
   rw[this];simp
 · rw[hd]
   exact h _ _ f (sm.setChan ..) (m.setChan k hk hH)
end
def Ar(k:Nat)(u:Value):Value:=if k=0 then .slice none 0 0 else u
theorem FK{α:Type}{l:List α}{k:Nat}(h:k<l.length):l.drop k++l.take k=l[k]::(l.drop (k+1)++l.take k):=by rw[df h];rfl
theorem zV{α:Type}{l:List α}{k:Nat}(h:k<l.length):(l.drop (k+1)++l.take k)++[l[k]]=l.drop (k+1)++l.take (k+1):=by rw[bb,bV h]
end Leg
namespace Leg
open Go
theorem Gr{us:List Value}{k:Nat}(h:k=0)(hk:k<us.length):us[k]=Ar (k+1) (us.getD 0 undef):=by
 subst h;unfold Ar;rw[if_neg (by omega)];simp[List.getD_eq_getElem?_getD,hk]
theorem Gp{u:Value}{k:Nat}(h: ¬k=0):Ar k u=Ar (k+1) u:=by unfold Ar;rw[if_neg h,if_neg (by omega)]
theorem Gq{u:Value}{k:Nat}(h: ¬k=0):Ar k u=u:=if_neg h
end Leg
namespace Leg
open Go
def qS{α:Type}:List α→List α
 | []=>[]
 |a::l=>l++[a]
def Fp{α:Type}(l:List α):Bool:=decide (l.length≠0∧l.length≠8)
def Bh{α:Type}[Inhabited α](l:List α):List α:=if l.length≠0∧l.length≠8 then l++[l.getD 0 default]else l
end Leg
namespace Leg
open Go
def kj{α:Type}:Nat→List α→List α
 |0,l=>l
 |n+1,l=>qS (kj n l)
theorem DI{α:Type}(l:List α):(qS l).length=l.length:=by cases l<;>simp[qS]
theorem jD{α:Type}: ∀(n:Nat) (l:List α),(kj n l).length=l.length
 |0,_=>rfl
 |n+1,l=>by rw[kj,DI,jD n l]
theorem DH{α:Type}{l:List α}{x:α}:x∈qS l↔x∈l:=by
 cases l with
 |nil=>rfl
 |cons a l=>simp[qS,or_comm]
theorem nB{α:Type}{x:α}: ∀(n:Nat) (l:List α),x∈kj n l↔x∈l
 |0,_=>Iff.rfl
 |n+1,l=>by rw[kj,DH,nB n l]
theorem xb{α β:Type}(f:α→β)(l:List α):qS (l.map f)=(qS l).map f:=by cases l<;>simp[qS]
theorem G8{α β:Type}[Inhabited α][Inhabited β](f:α→β)(l:List α):Bh (l.map f)=(Bh l).map f:=by
 unfold Bh;rw[bH];split
 · rename_i h
   cases l with
   |nil=>exact absurd rfl h.1
   |cons a l=>simp
 · rfl
theorem G9{α β:Type}(f:α→β)(l:List α):Fp (l.map f)=Fp l:=by unfold Fp;rw[bH]
end Leg
end

section
namespace Api
open Go Leg Codec Dsk Wal
instance :Inhabited MsgT:=⟨.zero⟩
structure LD where
 cnt:Nat
 used:Int
 D:DS
structure DkOk(D:DS):Prop where
 ok:D.Ok
 inn:Wal.DS.In D
 ws:D.ws.length≤2048
 up:D.dn=false→D.ws=[]
def Wrote(D:DS)(n:Nat)(r:Int×DS):Prop:=r.2.Ok∧Wal.DS.In r.2∧((D.dn=true∧r.2=D)∨(D.dn=false∧r.2.ws.length≤D.ws.length+n∧(r.1=0→r.2.dn=false)∧(r.1≠0→r.2.dn=true)))
theorem Wrote.none{D:DS}(h:D.Ok)(hi:Wal.DS.In D):Wrote D 0 (0,D):=⟨h,hi,by
 cases hd:D.dn
 · exact .inr ⟨rfl,aN _,λ_=>by first|exact hd|rfl,λq=>absurd rfl q⟩
 · exact .inl ⟨rfl,rfl⟩⟩
theorem Wrote.more{D:DS}{n m:Nat}{r:Int×DS}(h:Wrote D n r)(hm:n≤m):Wrote D m r:=⟨h.1,h.2.1,h.2.2.imp id λ⟨a,b,c⟩=>⟨a,by omega,c⟩⟩
theorem Wrote.one{D:DS}(h:D.Ok)(hi:Wal.DS.In D){at':Int}{bs:List UInt8}(h1:0≤at'∧at'<2048)(h2:bs.length≤64):Wrote D 1 (D.write at' bs):=by
 cases hd:D.dn
 · by_cases hc:D.ar=true∧D.lf=0
   · rw[Bb h1 h2 hc]
     exact⟨⟨h.s,h.ws,h.lf⟩,hi, .inr ⟨hd,Nat.le_succ _,(λq=>absurd q (by show ¬(4:Int)=0;decide)),λ_=>rfl⟩⟩
   · have h4:D.ar=false∨0<D.lf:=by
      have:=h.lf;cases q:D.ar
      · exact .inl rfl
      · right
        have:D.lf≠0:=λe=>hc ⟨q,e⟩
        omega
     rw[tU h1 h2 hd h4];exact⟨CM h h2 h4,CO hi h1, .inr ⟨hd,by simp[BB],λ_=>rfl,λq=>absurd rfl q⟩⟩
 · have e:D.write at' bs=(4,D):=by
    rw[DS.write,if_neg (by omega),if_pos (.inl hd)];cases D;simp only at hd;rw[hd]
   rw[e];exact⟨h,hi, .inl ⟨hd,rfl⟩⟩
theorem Wrote.then{D:DS}{n m:Nat}{r q:Int×DS}(h:Wrote D n r)(h0:r.1=0)(g:Wrote r.2 m q):Wrote D (n+m) q:=by
 obtain⟨_,_,h⟩:=h;refine⟨g.1,g.2.1,?_⟩;rcases h with⟨hd,e⟩| ⟨hd,hl,hz,_⟩
 · rw[e]at g
   rcases g.2.2 with⟨_,e2⟩| ⟨hd2,_⟩
   · exact .inl ⟨hd,e2⟩
   · rw[hd]at hd2;cases hd2
 · rcases g.2.2 with⟨hd2,_⟩| ⟨_,hl2,h3⟩
   · rw[hz h0]at hd2;cases hd2
   · exact .inr ⟨hd,by omega,h3⟩
theorem Wrote.writes: ∀(ss:List ji) (at':Int) (D:DS),D.Ok→Wal.DS.In D→0≤at'→at'+ss.length≤2048→(∀s∈ss,s.length=64)→Wrote D ss.length (fQ ss at' D)
 | [],_,D,h,hi,_,_,_=>Wrote.none h hi
 |s::ss,at',D,h,hi,h0,h1,hs=>by
  simp only[aw]at h1;have h2:=hs s (by simp);have o:=Wrote.one h hi (at':=at') (bs:=s) (by omega) (by omega);rw[fQ];split
  · rename_i hz
    have:=o.then hz (Wrote.writes ss (at'+1) _ o.1 o.2.1 (by omega) (by omega) λx hx=>hs x (by simp[hx]))
    rwa [lr]at this
  · exact o.more (by simp)
theorem Wrote.wipes: ∀(n:Nat) (at':Int) (D:DS),D.Ok→Wal.DS.In D→0≤at'→at'+n≤2048→Wrote D n (ja n at' D)
 |0,_,D,h,hi,_,_=>Wrote.none h hi
 |n+1,at',D,h,hi,h0,h1=>by
  rw[ja];split
  · exact(Wrote.wipes n (at'+1) D h hi (by omega) (by omega)).more (by omega)
  · have o:=Wrote.one h hi (at':=at') (bs:=[]) (by omega) (by simp)
    split
    · rename_i hz
      have:=o.then hz (Wrote.wipes n (at'+1) _ o.1 o.2.1 (by omega) (by omega))
      rwa [lr]at this
    · exact o.more (by omega)
theorem DkOk.wrote{D:DS}(h:DkOk D){n:Nat}{r:Int×DS}(g:Wrote D n r)(hn:n≤2048):(r.1≠0→DkOk r.2)∧DkOk r.2.sync.2:=by
 obtain⟨ho,hi,hr⟩:=g;rcases hr with⟨hd,e⟩| ⟨hd,hl,h0,h1⟩
 · rw[e]
   refine⟨λ_=>h,?_⟩;rw[DS.sync,if_pos hd];exact h
 · rw[h.up hd]at hl
   simp only[az,ba]at hl;refine⟨λq=>⟨ho,hi,by omega,λz=>by rw[h1 q]at z;cases z⟩,?_⟩
   by_cases q:r.1=0
   · obtain⟨_,s2,_⟩:=se (h0 q)
     exact⟨DS.sync_ok ho,CB hi,by rw[s2];exact aR _,λ_=>s2⟩
   · rw[DS.sync,if_pos (h1 q)]
     exact⟨ho,hi,by show r.2.ws.length≤2048;omega,λz=>by rw[show r.2.dn=true from h1 q]at z;cases z⟩
theorem uK{D:DS}(hI:Wal.DS.In D)(hD:D.Ok): ∀(f:Nat) (cnt used:Int),0≤used→used≤2048→0≤(fx D.read f cnt used).2∧(fx D.read f cnt used).2≤2048∧(fx D.read f cnt used).1.length≤f
 |0,_,_,h0,h1=>⟨h0,h1,aN _⟩
 |f+1,cnt,used,h0,h1=>by
  rw[fx];split
  · exact⟨h0,h1,aR _⟩
  · rename_i b all h
    have h2:=nE hI hD h0 h;have h3:=(kw (la hD _) h).1;obtain⟨a,b',c⟩:=uK hI hD f (cnt+1) (used+all) (by omega) h2;exact⟨a,b',by simp only[aw];omega⟩
theorem DkOk.open{D:DS}(h:DkOk D):DkOk (bJ D).D∧0≤(bJ D).used∧(bJ D).used≤2048∧(bJ D).recs.length≤2049:=by
 obtain⟨a,b,c⟩:=uK h.inn h.ok iF 0 0 (by omega) (by omega);rw[rr]at c;have w:=h.wrote (Wrote.wipes (2048- (fx D.read iF 0 0).2).toNat _ D h.ok h.inn a (by omega)) (by omega);unfold bJ;simp only;split
 · rename_i q;exact⟨w.1 q,by show(0:Int)≤0;omega,by show(0:Int)≤2048;omega,aR _⟩
 · split
   · exact⟨w.2,by show(0:Int)≤0;omega,by show(0:Int)≤2048;omega,aR _⟩
   · exact⟨w.2,a,b,by rw[←rr]at c;exact c⟩
theorem DkOk.arm{D:DS}(h:DkOk D)(n:Int)(hn:n≤9223372036854775807):DkOk (D.arm n):=⟨⟨h.ok.s,h.ok.ws,by show 0≤max n 0∧max n 0≤9223372036854775807;omega⟩,h.inn,h.ws,h.up⟩
theorem DkOk.crash{D:DS}(h:DkOk D)(mask torn cut:Int):DkOk (D.crash mask torn cut):=by
 have c:=Calm.crash h.ok h.inn mask torn cut;exact⟨c.ok,c.inn,aR _,λ_=>rfl⟩
theorem DkOk.new:DkOk .new:=⟨⟨lM,lM,by simp[DS.new],by simp[DS.new]⟩,⟨Mv,Mv⟩,aR _,λ_=>rfl⟩
structure LD.Ok(e:LD):Prop where
 dk:DkOk e.D
 used:0≤e.used∧e.used≤2048
 cnt:(e.cnt:Int)≤4100+e.used
def LD.put(e:LD)(bs:List UInt8):LD×Int:=(⟨(m7 e.D e.cnt e.used bs).cnt,(m7 e.D e.cnt e.used bs).used,(m7 e.D e.cnt e.used bs).D⟩,(m7 e.D e.cnt e.used bs).err)
theorem LD.put_ok(e:LD)(bs:List UInt8)(h:e.Ok)(hb:bs.length≤3000):(e.put bs).1.Ok:=by
 obtain⟨⟨ho,hi,hw,hu⟩,h1,h2⟩:=h;unfold LD.put m7;rw[if_neg (by omega)]
 by_cases hf:(bn bs.length:Int)>2048-e.used
 · rw[if_pos hf];exact⟨⟨ho,hi,hw,hu⟩,h1,h2⟩
 rw[if_neg hf];have hp:0<bn bs.length:=oS _;have hl:(cg ((e.cnt+1:Nat):Int) bs).length=bn bs.length:=eg _ _;have w:=DkOk.wrote ⟨ho,hi,hw,hu⟩ (Wrote.writes (cg ((e.cnt+1:Nat):Int) bs) e.used e.D ho hi h1.1 (by omega) (ym _ _)) (by omega);simp only;split
 · rename_i q;exact⟨w.1 q,h1,h2⟩
 · split
   · exact⟨w.2,h1,h2⟩
   · exact⟨w.2,(by show 0≤e.used+(bn bs.length:Int)∧e.used+(bn bs.length:Int)≤2048;omega),by show((e.cnt+1:Nat):Int)≤4100+(e.used+bn bs.length);omega⟩
def KD:Dk LD:=⟨LD.put,λe=>e.D.dn,LD.Ok,LD.put_ok⟩
structure Slot where
 run:Option (MS LD)
 D:DS
 past:List ReplyT
structure CL where
 ms:List Slot
 W:List (List MsgT)
def Slot.nil:Slot:=⟨none, .new,[]⟩
def CL.at'(a:CL)(i:Nat):Slot:=a.ms.getD i .nil
def Slot.dk(x:Slot):DS:=match x.run with
 |some s=>s.e.D
 |none=>x.D
def Slot.reps(x:Slot):List ReplyT:=x.past++(match x.run with
 |some s=>s.replies
 |none=>[])
def Slot.up(x:Slot):Bool:=match x.run with
 |some s=> !s.e.D.dn
 |none=>false
def CL.set(a:CL)(i:Nat)(x:Slot):CL:= {a with ms:=a.ms.set i x}
def ra(W:List (List MsgT))(f:Nat)(s:SaidT):List (List MsgT):=if dw ((f:Nat):Int) s.to' then W.set (bp ((f:Nat):Int) s.to') (if(W.getD (bp ((f:Nat):Int) s.to') []).length<8 then W.getD (bp ((f:Nat):Int) s.to') []++[s.msg]else W.getD (bp ((f:Nat):Int) s.to') [])else W
def gh(W:List (List MsgT))(f:Nat)(l:List SaidT):List (List MsgT):=l.foldl (λW s=>ra W f s) W
def MS.hush{δ:Type}(s:MS δ):MS δ:= {s with o:=[]}
def CL.did(a:CL)(i:Nat)(s:MS LD):CL:=⟨a.ms.set i {a.at' i with run:=some s.hush},gh a.W i s.o⟩
def MS.dsk(s:MS LD)(D:DS):MS LD:= {s with e:= {s.e with D:=D}}
def tB(x:Slot)(n:Int):Slot:=match x.run with
 |some s=> {x with run:=some (s.dsk (s.e.D.arm n))}
 |none=> {x with D:=x.D.arm n}
def mP(x:Slot)(mask torn cut:Int):Slot:=⟨none,x.dk.crash mask torn cut,x.reps⟩
def dM(i:Nat)(D:DS):Option (MS LD)×Int:=
 if(bJ D).err≠0 then(none,(bJ D).err)
 else match kK (bJ D).recs (Af ((i:Nat):Int) (⟨(bJ D).recs.length,(bJ D).used,(bJ D).D⟩:LD))with
  |none=>(none,1)
  |some s=>(some s,0)
def gA(i:Nat)(x:Slot):Slot×Int:=match x.run with
 |some _=>(x,5)
 |none=>({x with run:=(dM i x.D).1,D:=(bJ x.D).D},(dM i x.D).2)
def rE(a:CL)(f t:Nat)(m:MsgT):CL×Int:=match(a.at' t).run with
 |none=>(a,0)
 |some s=>if s.e.D.dn then(a,0)else if(ik (dC m)).2=0 then(a.did t (fI KD s ((f:Nat):Int) (ik (dC m)).1),0)else(a,(ik (dC m)).2)
def CL.way(a:CL)(k:Nat)(l:List MsgT):CL:= {a with W:=a.W.set k l}
def nz(a:CL)(o:OpT):CL×Int:=
 if dw o.at' o.to'=false then(a,5)
 else match a.W.getD (bp o.at' o.to') []with
  | []=>(a,10)
  |m::l=>
   if o.kind=7 then(if Fp (m::l)then(a.way (bp o.at' o.to') (Bh (m::l)),0)else(a,3))
   else match kj (max o.n 0% ((m::l).length:Int)).toNat (m::l)with
    | []=>(a,0)
    |m::l=>if o.kind=6 then(a.way (bp o.at' o.to') l,0)else rE (a.way (bp o.at' o.to') l) o.at'.toNat o.to'.toNat m
def AQ(a:CL)(i:Nat)(o:OpT):CL×Int:=match(a.at' i).run with
 |none=>(a,4)
 |some s=>if s.e.D.dn then(a,4)else(a.did i (bO KD s o).1,(bO KD s o).2)
def zu(a:CL)(i:Nat):CL×Int:=match(a.at' i).run with
 |none=>(a,4)
 |some s=>if s.e.D.dn then(a,4)else(a.did i (gU KD s),0)
def xK(a:CL)(o:OpT):CL×Int:=
 if gp o.at'=false then(a,5)
 else if 0≤o.kind∧o.kind≤4 then AQ a o.at'.toNat o
 else if o.kind=5∨o.kind=6∨o.kind=7 then nz a o
 else if o.kind=8 then zu a o.at'.toNat
 else if o.kind=9 then(a.set o.at'.toNat (tB (a.at' o.at'.toNat) o.n),0)
 else if o.kind=10 then(a.set o.at'.toNat (mP (a.at' o.at'.toNat) o.mask o.torn o.cut),0)
 else if o.kind=11 then(a.set o.at'.toNat (gA o.at'.toNat (a.at' o.at'.toNat)).1,(gA o.at'.toNat (a.at' o.at'.toNat)).2)
 else(a,5)
def eh(a:CL)(l:List OpT):CL:=l.foldl (λa o=>(xK a o).1) a
def lH(i:Nat):Slot:=(gA i .nil).1
def CL.new:CL:=⟨(List.range 5).map lH,List.replicate 25 []⟩
structure Fresh{δ:Type}(i:Int)(e:δ)(s:MS δ):Prop where
 id:s.id=i
 vote:s.vote=none
 replies:s.replies=[]
 e:s.e=e
 o:s.o=[]
 waits:s.waits=0
 ops:s.ops=0
theorem Fresh.rest{δ:Type}{i:Int}{e:δ}{s:MS δ}(h:Fresh i e s)(m:RecT):Fresh i e (jc s m):=by
 obtain⟨h1,h2,h3,h4,h5,h6,h7⟩:=h;unfold jc
 repeat' split
 all_goals exact⟨h1,by first|exact h2|rfl,h3,h4,h5,h6,h7⟩
theorem Fresh.new{δ:Type}(i:Int)(e:δ):Fresh i e (Af i e):=⟨rfl,rfl,rfl,rfl,rfl,rfl,rfl⟩
abbrev A9:= @Fresh.new
theorem Fresh.read{δ:Type}{i:Int}{e:δ}: ∀(l:List (List UInt8)) {s s':MS δ},Fresh i e s→kK l s=some s'→Fresh i e s'
 | [],s,s',h,q=>by
  obtain rfl:=cN q;exact h
 |b::l,s,s',h,q=>by
  rw[kK]at q;split at q
  · cases q
  · exact Fresh.read l (h.rest _) q
abbrev rR:= @Fresh.read
theorem jK{i:Nat}{D:DS}{s:MS LD}(h:(dM i D).1=some s):(bJ D).err=0∧kK (bJ D).recs (Af ((i:Nat):Int) (⟨(bJ D).recs.length,(bJ D).used,(bJ D).D⟩:LD))=some s:=by
 unfold dM at h;split at h
 · cases h
 · rename_i h0
   refine⟨Decidable.not_not.1 h0,?_⟩;split at h
   · cases h
   · rename_i h2;rw[h2];exact h
theorem yc{v:ViewT}{bs r:List UInt8}(h:lU bs=some (v,r)):OkVw v:=by
 obtain⟨⟨h1,h2,_⟩,_⟩:=rZ h;have hr:=qM h;exact⟨hr,Bg ⟨by omega,by omega⟩ ⟨by omega,by omega⟩ hr⟩
theorem pE{b:BallotT}{bs r:List UInt8}(h:jB bs=some (b,r)):WF b.flat:=by
 obtain⟨⟨h1,h2⟩,_⟩:=pc h;exact OkB.wf ⟨h1,h2⟩
theorem Cl{c:ChangeT}{bs r:List UInt8}(h:kD bs=some (c,r)):WF c.flat:=by
 obtain⟨⟨h1,h2,h3⟩,_⟩:=tg h;exact OkC.wf ⟨h1,h2,h3⟩
theorem Bx{x:RowT}{bs r:List UInt8}(h:tu bs=some (x,r)):OkRow x:=OkRow.of (yp h)
theorem IZ{m:MsgT}{g:Bool}{bs r:List UInt8}(h:cH bs=some ((m,g),r)):OkMg m:=by
 obtain⟨k,r1,_,h⟩:=bw h
 have fin: ∀{m':MsgT} {g':Bool} {b r:List UInt8},pr (m',g') b=some ((m,g),r)→OkMg m'→OkMg m:=λh q=>by
  obtain⟨e,_⟩:=gL h;injection e with e1 e2
  exact e1▸q
 split at h
 · obtain⟨_,_,_,h⟩:=bw h;obtain⟨x,_,hx,h⟩:=bw h;exact fin h ⟨Bx hx, .zero,gq,gq,oh⟩
 split at h
 · obtain⟨_,_,_,h⟩:=bw h;exact fin h ⟨.zero, .zero,gq,gq,oh⟩
 split at h
 · obtain⟨_,_,_,h⟩:=bw h;obtain⟨b,_,hb,h⟩:=bw h;exact fin h ⟨.zero, .zero,pE hb,gq,oh⟩
 split at h
 · obtain⟨_,_,_,h⟩:=bw h;obtain⟨b,_,hb,h⟩:=bw h;obtain⟨d,_,hd,h⟩:=bw h;obtain⟨c,_,hc,h⟩:=bw h;exact fin h ⟨.zero, .zero,pE hb,pE hd,Cl hc⟩
 split at h
 · obtain⟨_,_,_,h⟩:=bw h;obtain⟨b,_,hb,h⟩:=bw h;obtain⟨c,_,hc,h⟩:=bw h;exact fin h ⟨.zero, .zero,pE hb,gq,Cl hc⟩
 split at h
 · obtain⟨v,_,hv,h⟩:=bw h;exact fin h ⟨.zero,yc hv,gq,gq,oh⟩
 split at h
 · obtain⟨_,_,_,h⟩:=bw h;obtain⟨v,_,hv,h⟩:=bw h;exact fin h ⟨.zero,yc hv,gq,gq,oh⟩
 · exact fin h ⟨.zero, .zero,gq,gq,oh⟩
class OkRd(m:RecT):Prop where
 row:OkRow m.row
 view:OkVw m.view
 ballot:WF m.ballot.flat
 change:WF m.change.flat
theorem II{m:RecT}{g:Bool}{bs r:List UInt8}(h:dd bs=some ((m,g),r)):OkRd m:=by
 obtain⟨k,r1,_,h⟩:=bw h
 have fin: ∀{m':RecT} {g':Bool} {b r:List UInt8},pr (m',g') b=some ((m,g),r)→OkRd m'→OkRd m:=λh q=>by
  obtain⟨e,_⟩:=gL h;injection e with e1 e2
  exact e1▸q
 split at h
 · obtain⟨x,_,hx,h⟩:=bw h;exact fin h ⟨Bx hx, .zero,gq,oh⟩
 split at h
 · obtain⟨_,_,_,h⟩:=bw h;obtain⟨x,_,hx,h⟩:=bw h;exact fin h ⟨Bx hx, .zero,gq,oh⟩
 split at h
 · obtain⟨_,_,_,h⟩:=bw h;exact fin h ⟨.zero, .zero,gq,oh⟩
 split at h
 · obtain⟨_,_,_,h⟩:=bw h;obtain⟨b,_,hb,h⟩:=bw h;exact fin h ⟨.zero, .zero,pE hb,oh⟩
 split at h
 · obtain⟨_,_,_,h⟩:=bw h;obtain⟨b,_,hb,h⟩:=bw h;obtain⟨c,_,hc,h⟩:=bw h;exact fin h ⟨.zero, .zero,pE hb,Cl hc⟩
 split at h
 · obtain⟨v,_,hv,h⟩:=bw h;exact fin h ⟨.zero,yc hv,gq,oh⟩
 · exact fin h ⟨.zero, .zero,gq,oh⟩
theorem Dl(bs:List UInt8):OkMg (ik bs).1:=by
 unfold ik;split
 · rename_i m h;exact IZ h
 · exact⟨.zero, .zero,gq,gq,oh⟩
theorem HD(bs:List UInt8):OkRd (mO bs).1:=by
 unfold mO;split
 · rename_i m h;exact II h
 · exact⟨.zero, .zero,gq,oh⟩
section
variable {δ:Type} {K:Dk δ} {s:MS δ}
theorem Hh(h:OkR K s)(m:RecT)(hm:OkRd m):OkR K (jc s m):=by
 have ha:OkAc s.acc:=⟨h.acc⟩;unfold jc;split
 · exact⟨h.e,h.id,h.view,hm.row,h.mir,h.book,h.last,h.acc,h.vote⟩
 split
 · have:=hm.row;exact inferInstance
 split
 · exact inferInstance
 split
 · exact⟨h.e,h.id,h.view,h.own,h.mir,h.book,h.last,ld (ld (ld ha.epoch hm.ballot) ha.had) ha.change,h.vote⟩
 split
 · exact⟨h.e,h.id,h.view,h.own,h.mir,h.book,h.last,ld (ld (ld ha.epoch hm.ballot) hm.ballot) hm.change,h.vote⟩
 split
 · have:=hm.view;exact inferInstance
 · exact h
theorem yd{v:Vector RowT 5}(h:v= #v[.zero, .zero, .zero, .zero, .zero])(i:Nat)(hi:i<5):OkRow v[i]:=by
 subst h
 match i,hi with
 |0,_|1,_|2,_|3,_|4,_=>exact OkRow.zero
theorem Hv{i:Int}{e:δ}(he:K.ok e)(hi:cD i=true):OkR K (Af i e):=
 ⟨he,hi, .first, .zero,yd rfl,yd rfl,yd rfl,KS _ (by decide),λ_ q=>nomatch q⟩
theorem zY: ∀(l:List (List UInt8)) {s s':MS δ},OkR K s→kK l s=some s'→OkR K s'
 | [],s,s',h,q=>by
  obtain rfl:=cN q;exact h
 |b::l,s,s',h,q=>by
  rw[kK]at q;split at q
  · cases q
  · exact zY l (Hh h _ (HD b)) q
theorem xe{i:Nat}(hi:i<5){D:DS}(hD:DkOk D){s:MS LD}(h:(dM i D).1=some s):OkR KD s∧Fresh ((i:Nat):Int) (⟨(bJ D).recs.length,(bJ D).used,(bJ D).D⟩:LD) s:=by
 obtain⟨_,h2⟩:=jK h;obtain⟨o1,o2,o3,o4⟩:=hD.open;exact⟨zY _ (Hv (K:=KD) ⟨o1,⟨o2,o3⟩,by show(((bJ D).recs.length:Nat):Int)≤4100+(bJ D).used;omega⟩ (decide_eq_true ⟨by omega,by omega⟩)) h2,rR _ (A9 _ _) h2⟩
end
end Api
end

section
namespace Go.Proofs.YtjblgopghhgflaaGreat
open Go Leg Codec Api Dsk Wal
theorem y5(b c s r:Nat)(us:List Value)(x:Value)(bs:List UInt8)(hb:bs.length≤1000000)(hroom:us.length<8):
 DT 138 #[(.pointer (some ⟨b,0,none⟩)),x] (IsW x bs) [ak b [(.chan (some c))] 208,dO c 8 (us) (s) (r)] (dG (λv H=>v= .bool true∧∃u,H=[ak b [(.chan (some c))] 208,dO c 8 (us++[u]) (s+1) r,dE u bs 5])):=by
 refine Leg.Does.body (vs:=[(.pointer (some ⟨b,0,none⟩)),x]) (n:=15) Tryz.func138 rfl rfl rfl (λw0 F hF=>?_);refine sr λ_ J1=>?_
 refine ot ?_;refine nx J1 ?_;refine aa λ_ J2=>?_
 refine sr λ_ J3=>?_
 refine mv ?_;refine tp (fD rfl rfl) ?_;refine tp (a9 (r:=0) rfl AX rfl sL rfl rfl) ?_;refine tp (gH (v:=(.chan (some c))) rfl tC rfl rfl (eN 0 rfl rfl) rfl) ?_;refine nx J3 ?_;refine ae ?_;refine A1 (ab rfl) rfl rfl rfl fq jh (λv9=>?_);change TL _ _ _ _ _ _ _ _ _ [dE v9 ([]) 5,ak b [(.chan (some c))] 208,dO c 8 (us) (s) (r)];refine mv ?_;refine co (k:=0) (news:=ef (bs)) (nn':=(bs:List UInt8).length) (xs':=ef (bs)) (ab rfl) rfl rfl rfl fq wG rfl rfl rfl rfl rfl rfl (λ_ _=>hF.src (λ_ h=>eP h)) (eR _) (by simp only[maxLen,az];omega) (by simp only[az];omega) (by simp) (cb _) (λv11 ov11=>?_);change TL _ _ _ _ _ _ _ _ _ [dE v11 (bs) 5,ak b [(.chan (some c))] 208,dO c 8 (us) (s) (r)];refine nx J2 ?_;refine aa λ_ J4=>?_
 refine wQ ?_;change TX _ _ _ _ _ _ [0,1,2] _ _ _;refine TX.sendRoom 2 rfl (ab rfl) rfl rfl rfl Jh rfl rfl rfl rfl hroom ?_;change TX _ _ _ _ _ _ _ _ _ [dE v11 (bs) 5,ak b [(.chan (some c))] 208,dO c 8 (us++[v11]) (s+1) (r)];refine rK rfl (ab rfl) rfl rfl (kZ (vs:=[(.int .i64 0),(.bool false)]) rfl rfl rfl) ?_;refine rK rfl (ab rfl) rfl rfl (KX rfl rfl rfl) ?_;refine HT ?_;refine ac J4 ?_;refine aq ?_;refine mu rfl ?_;refine sr λ_ J5=>?_
 refine ot ?_;refine nx J5 ?_;refine ai ?_;refine aH ?_;refine aD (dK _) (λ_ s=>aj [1,1,0] rfl s) ?_;refine ap rfl rfl ?_;exact⟨rfl,_,rfl⟩
theorem vN(b c s r:Nat)(us:List Value)(ls:List (List UInt8))(h8:ls.length≤8)(hb: ∀x∈ls,x.length≤1000000):
    DT 101 #[(.pointer (some ⟨b,0,none⟩))] T0 [ak b [(.chan (some c))] 208,dO c 8 (us) (s) (r),ee (us) (ls) 5] (dG (λv H=>((ls.length=0∨ls.length=8)∧v= .bool false∧H=[ak b [(.chan (some c))] 208,dO c 8 us s r,ee us ls 5])∨(ls.length≠0∧ls.length≠8∧v= .bool true∧∃un,H=[ak b [(.chan (some c))] 208,dO c 8 (us++[un]) (s+us.length+1) (r+us.length),ee us ls 5,dE un (ls.getD 0 []) 5]))):=by
 refine BD 41 Tryz.func101 rfl rfl rfl λw0 F hF=>sr λ_ J1=>PS ?_
 refine nx J1 (sr λ_ J2=>PS ?_);refine CE sY (rI b c s r us ls) ID ?_;change TL _ _ _ _ _ _ _ _ _ [ak b [(.chan (some c))] 208,dO c 8 (us) (s) (r),ee (us) (ls) 5];refine wP (p:=us.length=ls.length) (λw m=>(pB 2 rfl rfl m).1) (λhul=>PS ?_);refine nx J2 (aa λ_ J3=>sr λ_ J4=>P2 ?_);refine ao ?_ ?_<;>intro h10;refine PS ?_
 iterate 7 refine UT ?_
 refine PS ?_;refine nx J4 (CY (sr λ_ J5=>PS ?_));refine nx J5 (ai (ad (WK [0,0,0] (ap rfl rfl ?_))));exact .inl ⟨by omega,rfl,rfl⟩;refine P4 ?_;refine FA 0 AX sL ?_;refine LA 0 tC ?_;refine tq (PV.capChan 1 rfl tC rfl rfl rfl) ?_;refine PS ?_;refine ao ?_ ?_<;>intro h18;refine PS ?_;refine nx J4 (CY (sr λ_ J6=>PS ?_));refine nx J6 (ai (ad (WK [0,0,0] (ap rfl rfl ?_))));exact .inl ⟨by omega,rfl,rfl⟩;refine PS ?_;refine nx J4 (CN (qx J3 (sr λ_ J7=>PS ?_)));refine nx J7 (aa λ_ J8=>sr λ_ J9=>P2 ?_);refine nx J9 (aq ?_)
 refine bF (α:=(Nat)) (λk=>k≤us.length) (λk=>[(0,(.pointer (some ⟨b,0,none⟩))),(2,(.bool false)),(4,(Ar k (us.getD 0 undef))),(20,(.int .i64 (((ls.length:Nat):Int)))),(21,(.int .i64 (((k:Nat):Int))))]) (λk=>[ak b [(.chan (some c))] 208,dO c 8 (us.drop k++us.take k) (s+k) (r+k),ee (us) (ls) 5]) (λk=>us.length-k) 0
     (aR _) SB
     (λ_ q=>by simpa using q) (λk hinv=>?_)
 obtain hk:=hinv;refine sr λ_ J10=>PS ?_
 refine ao ?_ ?_<;>intro h22;have hku:k<us.length:=by omega
 refine nx J10 (aa λ_ J11=>CY (qx J11 (aa λ_ J12=>aq (sr λ_ J13=>P2 ?_))));refine nx J13 (aa λ_ J14=>wQ (rK rfl (ab rfl) rfl rfl (jj rfl rfl) (rK rfl (ab rfl) rfl rfl (fD rfl rfl) (rK rfl (ab rfl) rfl rfl (a9 (r:=0) rfl AX rfl sL rfl rfl) (rK rfl (ab rfl) rfl rfl (gH (v:=(.chan (some c))) rfl tC rfl rfl (RO 0) rfl) (TX.recv1 1 rfl (ab rfl) rfl rfl rfl tC Jh rfl rfl rfl (FK hku) (rK rfl (ab rfl) rfl rfl (Mn rfl rfl) (HT (ac J14 (aa λ_ J15=>?_))))))))));refine sr λ_ J16=>P2 ?_
 refine ao ?_ ?_<;>intro h30;refine nx J16 (CY (ae (P2 ?_)));refine nx J15 (wQ (rK rfl (ab rfl) rfl rfl (jj rfl rfl) (rK rfl (ab rfl) rfl rfl (fD rfl rfl) (rK rfl (ab rfl) rfl rfl (a9 (r:=0) rfl AX rfl sL rfl rfl) (rK rfl (ab rfl) rfl rfl (gH (v:=(.chan (some c))) rfl tC rfl rfl (RO 0) rfl) (rK rfl (ab rfl) rfl rfl (jj rfl rfl) (TX.send1 1 rfl (ab rfl) rfl rfl rfl rfl rfl rfl (by simp only[af,bK,bz];omega) (HT (ag (ac J12 (ae ?_)))))))))));refine AD ?_;refine PS ?_;refine au ?_
 exact aL ((k+1):(Nat)) (by omega) (by show us.length- (k+1)<us.length-k;omega)
   (aQ (aQ (bo rfl (by first|exact Gr (by omega) hku|exact Gp (by omega)) SB)))
   (λ_ q=>by
      rw[zV hku]at q
      exact q)
 refine nx J16 (CN (qx J15 (wQ (rK rfl (ab rfl) rfl rfl (jj rfl rfl) (rK rfl (ab rfl) rfl rfl (fD rfl rfl) (rK rfl (ab rfl) rfl rfl (a9 (r:=0) rfl AX rfl sL rfl rfl) (rK rfl (ab rfl) rfl rfl (gH (v:=(.chan (some c))) rfl tC rfl rfl (RO 0) rfl) (rK rfl (ab rfl) rfl rfl (jj rfl rfl) (TX.send1 1 rfl (ab rfl) rfl rfl rfl rfl rfl rfl (by simp only[af,bK,bz];omega) (HT (ag ?_)))))))))));refine ac J12 (ae (AD ?_));refine PS ?_;refine au ?_
 exact aL ((k+1):(Nat)) (by omega) (by show us.length- (k+1)<us.length-k;omega)
   (aQ (aQ (bo rfl (by first|exact Gr (by omega) hku|exact Gp (by omega)) SB)))
   (λ_ q=>by
      rw[zV hku]at q
      exact q)
 obtain rfl:k=us.length:=by omega
 have hpos:0<ls.length:=by omega
 have hg:ls.getD 0 []=ls[0]:=by simp[List.getD_eq_getElem?_getD,hpos]
 refine cn (H':=[ak b [(.chan (some c))] 208,dO c 8 us (s+us.length) (r+us.length),ee us ls 5]) (λ_ q=>by simpa using q) (nx J10 (aa λ_ J17=>CN (bg (aF (aF (bD (ac J8 (sr λ_ J18=>P2 ?_))))))))
 refine j9 (ab rfl) rfl rfl rfl F2 rfl (y5 b c (s+us.length) (r+us.length) us (Ar us.length (us.getD 0 undef)) (ls.getD 0 []) (hb _ (hg▸cL hpos)) (by omega)) (λ_ s=>s) (λg d s=>by
          rw[Gq (by omega),hg]
          exact GT (sB 0 hpos rfl rfl g d s)) (λvR HR hR=>?_)
 obtain⟨rfl,un,rfl⟩:=hR;refine PS ?_;refine nx J18 (ai (WK [0,0,1,0] (ap rfl rfl ?_)));exact .inr ⟨by omega,by omega,rfl,un,rfl⟩
theorem wM(b:Nat)(ls:List (List UInt8))(h8:ls.length≤8)(hb: ∀x∈ls,x.length≤1000000):DT 101 #[.pointer (some ⟨b,0,none⟩)] T0 [gm 208 5 b ls] (RI (.bool (Fp ls)) [gm 208 5 b (Bh ls)]):=
 Leg.Does.pack (B:=[]) λq=>Leg.Does.fold (vN b q.1 q.2.2.1 q.2.2.2 q.2.1 ls h8 hb) λe H hp=>by
  cases e with
  |returned v=>
   unfold Fp Bh;rcases hp with⟨h,rfl,rfl⟩| ⟨h1,h2,rfl,un,rfl⟩
   · exact⟨[gm 208 5 b ls],λ_ s=>bm (p:=λq:Nat×List Value×Nat×Nat=>[ak b [.chan (some q.1)] 208,dO q.1 8 q.2.1 q.2.2.1 q.2.2.2,ee q.2.1 ls 5]) (H:=[]) q s,by rw[decide_eq_false (by omega)],by rw[if_neg (by omega)]⟩
   · refine⟨[gm 208 5 b (ls++[ls.getD 0 []])],λ_ s=>?_,by rw[decide_eq_true (by omega)],by rw[if_pos (by omega)];rfl⟩
     have s1:=yi 3 rfl rfl s;have s2:=aA [2,2] rfl s1;have s3:=sH s2;exact bm (p:=λq:Nat×List Value×Nat×Nat=>[ak b [.chan (some q.1)] 208,dO q.1 8 q.2.1 q.2.2.1 q.2.2.2,ee q.2.1 (ls++[ls.getD 0 []]) 5]) (H:=[]) (q.1,q.2.1++[un],q.2.2.1+q.2.1.length+1,q.2.2.2+q.2.1.length) (aA [1,1,0] rfl s3)
  |panicked c=>exact hp.elim
  |outgrown=>exact hp.elim
theorem rG(b:Nat)(ls:List (List UInt8))(h8:ls.length≤8)(hb: ∀x∈ls,x.length≤1000000):
 DT 102 #[(.pointer (some ⟨b,0,none⟩))] T0 [gm 208 5 b (ls)] (dG (λv H=>H=[gm 208 5 b (qS ls)])):=by
 refine BD 16 Tryz.func102 rfl rfl rfl λw0 F hF=>sr λ_ J1=>PS ?_
 refine nx J1 (sr λ_ J2=>PS ?_);refine CR Ie (rH b ls) ID λvR HR hR=>?_
 rcases hR with⟨rfl,rfl,rfl⟩| ⟨u,f,lt,rfl,rfl,rfl⟩
 refine P4 ?_;refine PS ?_;refine nx J2 (sr λ_ J3=>P2 ?_)
 iterate 3 refine UF ?_
 refine P2 ?_;exact nx J3 (ai (WK [0] (ap rfl rfl rfl)));refine P4 ?_;refine PS ?_;refine nx J2 (sr λ_ J4=>P4 ?_);refine CF F2 (tj b lt u f (hb f (gZ ..))) ID (λg d s=>GT (yM 0 rfl rfl g d s)) ?_;refine P2 ?_;refine nx J4 (ai (WK [0] (ap rfl rfl ?_)));exact congrArg (λq=>[gm 208 5 b q]) (if_pos (show lt.length<8 by have:=h8;rw[aw]at this;omega))
end Go.Proofs.YtjblgopghhgflaaGreat
end

section
namespace Leg
open Go
def RdG(S:World→Prop)(b:Nat){α:Type}(c:α→List Value)(T:TypeId):Prop:=∀w,S w→∃a,w.heap[b]?=some (.cells (c a).toArray T (0,0))
abbrev hid{α:Type}(b:Nat)(c:α→List Value)(T:TypeId)(R:α→List HP):HP:=pack (λa=>ak b (c a) T::R a)
section
variable {P:Program} {w0:World} {F:Hl} {n:Nat} {ops:Array Oper} {Q:QQ} {D:List Deferred} {L:List (Nat×Value)} {H:List HP} {o:Oper} {l:List Oper} {d:Nat} {S:World→Prop} {α:Type} {b j:Nat} {c c':α→List Value} {T:TypeId} {R R':α→List HP}
theorem Sat.packOpen{p:α→List HP}{w:World}(i:Nat)(s:Sat H F w)(hi:i<H.length)(hH:H.getD i (λ_=>True)=pack p): ∃a,Sat (p a++H.eraseIdx i) F w:=by
 obtain⟨h,d,e,x⟩:=s;have y:=en i hi x;rw[hH]at y;obtain⟨a,z⟩:=fi (p:=p) (H:=H.eraseIdx i) (h:=h) y;exact⟨a,h,d,e,z⟩
theorem Sat.packShut{p:α→List HP}{w:World}(i:Nat)(hi:i<H.length)(a:α)(s:Sat (p a++H.eraseIdx i) F w):Sat (H.set i (pack p)) F w:=by
 obtain⟨h,d,e,x⟩:=s;exact⟨h,d,e,jV i hi (bm a x)⟩
theorem RdG.own(i:Nat)(hi:Nat.blt i H.length=true)(hH:H.getD i (λ_=>True)=hid b c T R):RdG (Sat H F) b c T:=λw s=>by
 obtain⟨a,t⟩:=s.packOpen i (lb hi) hH;exact⟨a,t.block 0 (by simp) rfl⟩
abbrev cK:= @RdG.own
theorem PV.load1G{t:TypeId}{x:Operand}{dt:TypeDesc}{v:Value}(ho:o.op= .load t x)(ht:P.underlying t=some dt)(hp:dU dt=true)(hx:cI L x=some (.pointer (some ⟨b,j,none⟩)))(hR:RdG S b c T)(hc: ∀a,(c a)[j]?=some v):PV P n D L S o v:=
 λa w f m=>by
  obtain⟨y,hy⟩:=hR w m;exact gH (S:=λw'=>w'=w) ho ht hp hx (λ_ e=>e▸hy) (hc y) a w f rfl
abbrev cX:= @PV.load1G
theorem PV.loadNG{t:TypeId}{x:Operand}{dt:TypeDesc}{m:Nat}{vs:List Value}(ho:o.op= .load t x)(ht:P.underlying t=some dt)(hp:dU dt=false)(hm:(P.info? t).map (·.size)=some m)(hx:cI L x=some (.pointer (some ⟨b,j,none⟩)))(hR:RdG S b c T)(hl:vs.length=m)(hc: ∀a,((c a).drop j).take m=vs):PV P n D L S o (.agg vs.toArray):=
 λa w f s=>by
  obtain⟨y,hy⟩:=hR w s;exact aJ (S:=λw'=>w'=w) ho ht hp hm hx (λ_ e=>e▸hy) hl (hc y) a w f rfl
abbrev fz:= @PV.loadNG
theorem TL.storeG{i:Nat}{t:TypeId}{x y:Operand}{v:Value}{vs:List Value}(hw:Want n D ops o L)(ho:o.op= .store t x y)(hd:o.dst=none)
 (hx:cI L x=some (.pointer (some ⟨b,j,none⟩))) (hy:cI L y=some v) (hv:v.cells=vs.toArray) (hs:(P.info? t).map (·.size)=some vs.length) (h1: ∀u∈vs,u.oneCell'=true)
 (hi:Nat.blt i H.length=true) (hH:H.getD i (λ_=>True)=hid b c T R) (hl: ∀a,j+vs.length≤(c a).length) (hcs: ∀a,wr (c a) j vs=c' a)
 (h:TL P w0 F n ops Q l D L (H.set i (hid b c' T R))):TL P w0 F n ops Q (o::l) D L H:=
 TL.eff hw hd (λa w f _ m=>by
  obtain⟨q,m1⟩:=m.packOpen i (lb hi) hH;have hb:=m1.block 0 (by simp) rfl;refine⟨w.setRow b (wr (c q) j vs).toArray,by simp[execOp,ho,f.eval hx,f.eval hy,uM hv hs h1 hb (hl q)],⟨rfl,rfl,rfl,by simp⟩,?_⟩;rw[hcs q]
  exact Sat.packShut (p:=λa=>ak b (c' a) T::R a) i (lb hi) q (m1.write 0 (by simp) rfl (setRow_heap w b (c q).toArray _ T _ hb) (λk hk=>setRow_other w b k _ hk))) h
abbrev gr:= @TL.storeG
theorem TL.store1G{i:Nat}{t:TypeId}{x y:Operand}{v:Value}(hw:Want n D ops o L)(ho:o.op= .store t x y)(hd:o.dst=none)
 (hx:cI L x=some (.pointer (some ⟨b,j,none⟩))) (hy:cI L y=some v) (h1:v.oneCell'=true) (hs:(P.info? t).map (·.size)=some 1)
 (hi:Nat.blt i H.length=true) (hH:H.getD i (λ_=>True)=hid b c T R) (hl: ∀a,j< (c a).length) (hcs: ∀a,(c a).set j v=c' a)
 (h:TL P w0 F n ops Q l D L (H.set i (hid b c' T R))):TL P w0 F n ops Q (o::l) D L H:=
 gr (vs:=[v]) hw ho hd hx hy (by cases v<;>simp[Value.cells,Value.oneCell']at h1 ⊢) hs (by simpa using h1) hi hH (λa=>by have:=hl a;simp;omega)
  (λa=>by rw[←hcs a,wr,mR,if_pos (hl a)];simp) h
theorem DU{p p' a b c d:HP}{h:Hl}(e: ∀h,p h→p' h)(s:bI (a::b::c::d::p::H) h):bI (a::b::c::d::p'::H) h:=
 cy s (λ_ x=>x) λ_ s=>cy s (λ_ x=>x) λ_ s=>cy s (λ_ x=>x) λ_ s=>cy s (λ_ x=>x) λ_ s=>cy s e λ_ x=>x
theorem Does.hid{f:FuncId}{args:Array Value}{A:List HP}{q:Value→Prop}(h: ∀a,Does P f args (λ_=>True) (ak b (c a) T::A) (dG λv H=>q v∧H=ak b (c' a) T::A)):Does P f args (λ_=>True) (Leg.hid b c T R::A) (dG λv H=>q v∧H=Leg.hid b c' T R::A):=
 Does.pack λa=>Does.withinR (B:=R a) (h a) (λ_ _ _ _=>trivial) (λ_ s=>dS (List.Perm.cons (ak b (c a) T) (List.perm_append_comm (l₁:=R a) (l₂:=A))) s) λv H hp=>by
  obtain⟨h1,rfl⟩:=hp;exact⟨_,λ_ s=>bm (p:=λa=>ak b (c' a) T::R a) a (dS (List.Perm.cons (ak b (c' a) T) (List.perm_append_comm (l₁:=A) (l₂:=R a))) s),h1,rfl⟩
end
open Api
variable {P:Program} {w0:World} {F:Hl} {n:Nat} {ops:Array Oper} {Q:QQ} {D:List Deferred} {L:List (Nat×Value)} {H:List HP} {d:Nat} {o:Oper} {l:List Oper}
section
variable {A:Type} {b:Nat} {c:A→List Value} {T:TypeId} {R:A→List HP}
theorem LG{t:TypeId}{x:Operand}{dt:TypeDesc}{j:Nat}(k:Nat)(ht:P.underlying t=some dt)(v:Value)(h:TL P w0 F n ops Q l D ((d,v)::L) H)(hw:Want n D ops o L:=by first|exact ab rfl|exact bY rfl rfl rfl)(hd:o.dst=some d:=by exact rfl)(hn:Nat.blt d n=true:=by exact rfl)(ho:o.op= .load t x:=by exact rfl)(hp:dU dt=true:=by exact rfl)(hx:cI L x=some (.pointer (some ⟨b,j,none⟩)):=by exact rfl)(hk:Nat.blt k H.length=true:=by exact rfl)(hH:H.getD k (λ_=>True)=hid b c T R:=by exact rfl)(hc: ∀a,(c a)[j]?=some v):TL P w0 F n ops Q (o::l) D L H:=kW hw hd hn (cX ho ht hp hx (cK k hk hH) hc) h
theorem LZ{α:Type}{f:α→List Int}{t:TypeId}{x:Operand}{dt:TypeDesc}{j m:Nat}(k:Nat)(ht:P.underlying t=some dt)(hs:(P.info? t).map (·.size)=some m)(hf: ∀x,(ints (f x)).length=m)(y:α)(h:TL P w0 F n ops Q l D ((d, .agg (ints (f y)).toArray)::L) H)(hw:Want n D ops o L:=by first|exact ab rfl|exact bY rfl rfl rfl)(hd:o.dst=some d:=by exact rfl)(hn:Nat.blt d n=true:=by exact rfl)(ho:o.op= .load t x:=by exact rfl)(hp:dU dt=false:=by exact rfl)(hx:cI L x=some (.pointer (some ⟨b,j,none⟩)):=by exact rfl)(hk:Nat.blt k H.length=true:=by exact rfl)(hH:H.getD k (λ_=>True)=hid b c T R:=by exact rfl)(hc: ∀a,((c a).drop j).take m=ints (f y)):TL P w0 F n ops Q (o::l) D L H:=kW hw hd hn (fz ho ht hp hs hx (cK k hk hH) (hf y) hc) h
theorem SK{o:Oper}{l:List Oper}{t:TypeId}{x y:Operand}{j m:Nat}{v:Value}{c':A→List Value}(k:Nat)(hs:(P.info? t).map (·.size)=some 1)(hl: ∀a,(c a).length=m)(h:TL P w0 F n ops Q l D L (H.set k (hid b c' T R)))(hw:Want n D ops o L:=by first|exact ab rfl|exact bY rfl rfl rfl)(hd:o.dst=none:=by exact rfl)(ho:o.op= .store t x y:=by exact rfl)(hx:cI L x=some (.pointer (some ⟨b,j,none⟩)):=by exact rfl)(hy:cI L y=some v:=by exact rfl)(h1:v.oneCell'=true:=by exact rfl)(hk:Nat.blt k H.length=true:=by exact rfl)(hH:H.getD k (λ_=>True)=hid b c T R:=by exact rfl)(hj:Nat.blt j m=true:=by first|exact rfl|exact Nat.ble_eq_true_of_le (by omega))(hc: ∀a,(c a).set j v=c' a):TL P w0 F n ops Q (o::l) D L H:=TL.store1G hw ho hd hx hy h1 hs hk hH (λa=>(hl a)▸lb hj) hc h
end
end Leg
end

section
namespace Go.Proofs.YtjblgopghhgflaaGreat
open Go Leg Codec Api Dsk Wal
structure Env(δ:Type) extends Dk δ where
 T:Nat
 ov:Value
 sf:Nat
 E:δ→List SaidT→HP
 lg:Nat→δ→HP
 me : wg Tryz.prog T ov "Send" sf
 nm:Named Tryz.prog sf
 say: ∀(e:δ) (l:List SaidT) (to':Int) (m:MsgT),ok e→Leg.Does Tryz.prog sf #[ov, .int .i64 to', .agg (ints m.flat).toArray] (λ_=>True) [E e l] (dG (λ_ H=>H=[E e (if dn e then l else l++[SaidT.mk to' m])]))
 put: ∀(g:Nat) (x:Value) (bs:List UInt8) (e:δ) (l:List SaidT),ok e→bs.length≤3000→Leg.Does Tryz.prog 166 #[.pointer (some ⟨g,0,none⟩),x] (IsW x bs) [lg g e,E e l] (dG (λv H=>v= .int .i64 (pt e bs).2∧H=[lg g (pt e bs).1,E (pt e bs).1 l]))
def DF(vo:Value):Option VoteT→HP
 |none=>λ_=>vo= .pointer none
 |some vt=>λh=>∃b,vo= .pointer (some ⟨b,0,none⟩)∧ak b (VoteT.cells vt) 227 h
abbrev cA{δ:Type}(V:Env δ)(r:Nat)(s:MS δ):HP:=hid r (λa:Adr=>RepT.cells (s.rep a)) 123 (λa=>[V.lg a.lg s.e,own a.rs s.replies.length (ints (s.replies.flatMap ReplyT.flat)) 37 3,DF a.vo s.vote,V.E s.e s.o])
abbrev tQ{δ:Type}(V:Env δ)(r:Nat)(s:MS δ)(vo:Value):HP:=hid r (λa:Nat×Value=>RepT.cells (s.rep ⟨a.1,vo,a.2⟩)) 123 (λa=>[V.lg a.1 s.e,own a.2 s.replies.length (ints (s.replies.flatMap ReplyT.flat)) 37 3,V.E s.e s.o])
theorem jd{δ:Type}{V:Env δ}{r:Nat}{f:MS δ×Int}{X:MS δ}{y:Int}(e:f=(X,y)):Value.int .i64 y= .int .i64 f.2∧[cA V r X]=[cA V r f.1]:=by
 subst e;exact⟨rfl,rfl⟩
theorem D5{δ:Type}(V:Env δ)(r:Nat)(s:MS δ)(to':Int)(m:MsgT)[hs:OkR V.toDk s]:DT V.sf #[V.ov, .int .i64 to', .agg (ints m.flat).toArray] T0 [cA V r s] (dG (λ_ H=>H=[cA V r (Bw V.toDk s to' m)])):=
 Leg.Does.pack λa=>Leg.Does.withinR (V.say s.e s.o to' m hs.e) (λ_ _ _ _=>trivial) (λ_ q=>aA [4] rfl q) λv H hp=>by
  subst hp;refine⟨_,λ_ q=>?_,rfl⟩;have q2:=aA [1,1,1,1,0] rfl q;exact bm (p:=λa:Adr=>[ak r (RepT.cells (s.rep a)) 123,V.lg a.lg s.e,own a.rs s.replies.length (ints (s.replies.flatMap ReplyT.flat)) 37 3,DF a.vo s.vote,V.E s.e (if V.dn s.e then s.o else s.o++[SaidT.mk to' m])]) a q2
theorem fK{δ:Type}(V:Env δ)(r:Nat)(s:MS δ)(to':Int)(m:MsgT)(f:MS δ→MS δ)(hT:to'=s.id→DT 105 #[.pointer (some ⟨r,0,none⟩), .iface V.T V.ov, .int .i64 s.id, .agg (ints m.flat).toArray] T0 [cA V r s] (dG (λ_ H=>H=[cA V r (f s)])))[OkR V.toDk s]:
 DT 149 #[(.pointer (some ⟨r,0,none⟩)),(.iface V.T V.ov),(.int .i64 (to')),(.agg (ints m.flat).toArray)] T0 [cA V r s] (dG (λ_ H=>H=[cA V r (mA V.toDk f s to' m)])):=by
 refine Leg.Does.body (vs:=[(.pointer (some ⟨r,0,none⟩)),(.iface V.T V.ov),(.int .i64 (to')),(.agg (ints m.flat).toArray)]) (n:=28) Tryz.func149 rfl rfl rfl (λw0 F hF=>?_);refine sr λ_ J1=>?_
 refine TL.box (ab rfl) rfl rfl rfl rfl (λb7=>?_);change TL _ _ _ _ _ _ _ _ _ [ak b7 (ints m.flat) 178,cA V r s];refine nx J1 ?_;refine aa λ_ J2=>?_
 refine sr λ_ J3=>?_
 refine mv ?_;refine mv ?_;refine tp (fD rfl rfl) ?_;refine tp (a9 (r:=0) rfl bh rfl aM rfl rfl) ?_;refine tp (cX (v:=(.int .i64 (s.id))) rfl Y3 rfl rfl (cK 1 rfl rfl) (λa_=>(cv (s.rep a_) rfl))) ?_;refine tp (KX rfl rfl rfl) ?_;refine ao (λh13=>?_) (λh13=>?_);refine nx J3 ?_;refine mu rfl ?_;refine aa λ_ J4=>?_
 refine qv (λw=>Frm F w∧w.heap[b7]?=some (.cells (ints m.flat).toArray 178 (0,0))∧True) bc rfl (λ_ s=>⟨eP s,s.block 0 (lb rfl) rfl,trivial⟩) ?_;refine ta 0 rfl (jj rfl rfl) ?_;refine ta 1 rfl (jj rfl rfl) ?_;refine ta 2 rfl (jj rfl rfl) ?_;refine ta 3 rfl (fD rfl rfl) ?_;refine ta 4 rfl (a9 (r:=0) rfl bh rfl aM rfl rfl) ?_;refine ta 6 rfl (aJ (vs:=ints m.flat) rfl aY rfl bW rfl (λ_ h=>h.2.1) (aG m) (bj (aG m))) ?_;refine cE [5] (by kernel_rfl) rfl ?_;refine aE rfl ?_ ?_;refine tp (cX (v:=(.int .i64 (s.id))) rfl Y3 rfl rfl (cK 1 rfl rfl) (λa_=>(cv (s.rep a_) rfl))) ?_;refine au ?_;refine tn (λ_ s=>⟨eP s,s.block 0 (lb rfl) rfl,trivial⟩) ?_;refine cE [7] (by kernel_rfl) rfl ?_;refine aE rfl ?_ ?_;refine j9 (ab rfl) rfl rfl rfl Ik rfl ((by have h:=hT h13;exact h)) (λ_ s=>aA [1] rfl s) (λ_ _ _=>trivial) (λvR HR hR=>?_);obtain rfl:=hR;refine au ?_;refine tn (λ_ s=>⟨eP s,s.block 1 (lb rfl) rfl,trivial⟩) ?_;refine TD.done (by kernel_rfl) ?_;refine ac J4 ?_;refine ai ?_;refine ad ?_;refine aD (dK _) (λ_ s=>aj [0] rfl s) ?_;refine du rfl ?_;exact(congrArg (λq=>[cA V r q]) (if_pos h13)).symm;exact bA;exact bA;refine nx J3 ?_;refine Ds rfl ?_;refine aS ?_;refine ac J2 ?_;refine sr λ_ J5=>?_
 refine mv ?_;refine tp (PV.ifaceNotNil rfl Tryz.underlying168 rfl) ?_;refine nx J5 ?_;refine mu rfl ?_;refine ae ?_;refine mv ?_;refine mv ?_;refine tp (aJ (vs:=ints m.flat) rfl aY rfl bW rfl (eN 0 rfl rfl) (aG m) (bj (aG m))) ?_;refine TL.callI (ab rfl) rfl rfl rfl rfl V.me V.nm rfl (D5 V r s to' m) (λ_ s=>aA [1] rfl s) (λ_ _ _=>trivial) (λvR HR hR=>?_);obtain rfl:=hR;refine au ?_;refine aD (dK _) (λ_ s=>aj [0] rfl s) ?_;refine bu rfl ?_;exact(congrArg (λq=>[cA V r q]) (if_neg h13)).symm
theorem iT{δ:Type}(V:Env δ)(r:Nat)(s:MS δ)(to':Int)(m:MsgT)(hto:to'≠s.id)[OkR V.toDk s]:DT 149 #[.pointer (some ⟨r,0,none⟩), .iface V.T V.ov, .int .i64 to', .agg (ints m.flat).toArray] T0 [cA V r s] (dG (λ_ H=>H=[cA V r (ii V.toDk s [⟨to',m⟩])])):=by
 have h:=fK V r s to' m id (λe=>absurd e hto)
 rwa [show mA V.toDk id s to' m=ii V.toDk s [⟨to',m⟩]from if_neg hto]at h
theorem mZ{δ:Type}(V:Env δ)(r:Nat)(s:MS δ)(l:List SaidT)(to':Int)(m:MsgT)(hto:to'≠s.id)[OkR V.toDk s]:DT 149 #[.pointer (some ⟨r,0,none⟩), .iface V.T V.ov, .int .i64 to', .agg (ints m.flat).toArray] T0 [cA V r (ii V.toDk s l)] (dG (λ_ H=>H=[cA V r (ii V.toDk s (l++[⟨to',m⟩]))])):=by
 have h:=iT V r (ii V.toDk s l) to' m hto
 rwa [FG]at h
theorem MQ{δ:Type}{V:Env δ}{r:Nat}{a b:MS δ}(h:a=b):[cA V r a]=[cA V r b]:=by rw[h]
theorem mJ{δ:Type}(V:Env δ)(r:Nat)(s:MS δ)[OkR V.toDk s]:
 DT 106 #[(.pointer (some ⟨r,0,none⟩)),(.iface V.T V.ov)] T0 [cA V r s] (dG (λ_ H=>H=[cA V r (e8 V.toDk s)])):=by
 refine BD 40 Tryz.func106 rfl rfl rfl λw0 F hF=>?_
 have hid:cD s.id=true:=OkR.id;have hid2:0≤s.id∧s.id<5:=of_decide_eq_true hid;refine aa λ_ J1=>DB bc (cK 0 rfl rfl) ?_
 refine PD 0 ?_;refine PD 1 ?_;refine FD 2 0 bh aM ?_;refine ta 3 rfl (cX (v:=(.int .i64 (s.id))) rfl Y3 rfl rfl (λ_ h=>h.2.1) (λa_=>(cv _ rfl))) ?_;refine PD 4 ?_;refine PD 5 ?_;refine FD 6 9 bh aZ ?_;refine ta 7 rfl (fz (vs:=ints s.own.flat) rfl dP rfl aZ rfl (λ_ h=>h.2.1) (ah s.own) (λa_=>(wR (s.rep a_) 0 rfl (by decide) (bj (ah ((s.rep a_).own)))))) ?_;refine ta 8 rfl (kq MsgT.zero (MsgT.mk 0 s.id s.own 0 0 BallotT.zero BallotT.zero ChangeT.zero ViewT.zero) [(0,[Value.int .i64 0]),(1,[Value.int .i64 s.id]),(2,ints s.own.flat)] aY bk (g:=MsgT.sg)) ?_;refine AL 9 ?_;refine XZ lD (ints MsgT.zero.flat) λb4=>?_
 refine EN (AL 10 ?_);refine SW 0 bW aG ?_;refine EN (DN (ac J1 (sr λ_ J2=>P2 ?_)));refine FA 0 bh aM ?_;refine LG 1 Y3 (.int .i64 (s.id)) ?_ (hc:=by exact λa_=>(cv _ rfl));refine CR FY (pu s.id hid) ID λvR HR hR=>?_
 obtain⟨_,rfl,rfl⟩:=hR;revert vR;intro uw;refine gR 0 rfl rfl (λhluw _=>gG 0 rfl rfl (by omega) (λgw capw hvw hcapw=>tp (cY rfl jI rfl hluw) ?_));refine PS ?_;refine nx J2 (aq (qD 2 (sr λ_ J3=>PS ?_)));refine nx J3 (aa λ_ J4=>CY (qx J4 (aa λ_ J5=>aq (sr λ_ J6=>tp (a8 (r:=0) hvw rfl jI aM rfl rfl (by omega) (by omega) rfl) ?_))));refine tp (bT (v:=(.int .i64 (((s.id+1)%5)))) rfl Y3 rfl rfl (eM 0 rfl hvw rfl) rfl) ?_;refine PS ?_;refine nx J6 (sr λ_ J7=>P2 ?_);refine FA 1939 bh aM ?_;refine LG 2 Y3 (.int .i64 (s.kept)) ?_ (hc:=by exact λa_=>(qy _ rfl));refine PS ?_;refine tp (jt (r:=(s.kept.fdiv (2^min (((s.id+1)%5)).toNat IntKind.i64.bits))) rfl rfl rfl (by omega) rfl) ?_;refine tp (om (r:=((s.kept.fdiv (2^min (((s.id+1)%5)).toNat IntKind.i64.bits))%2)) rfl rfl rfl (mask (k:=1) (by decide) _)) ?_;refine PS ?_;refine ao ?_ ?_<;>intro h33;refine nx J7 (CY (ae (P3 ?_)));refine LW 1 aY bW aG ?_;refine CZ iB (iT V r s ((s.id+1)%5) (MsgT.mk 0 s.id s.own 0 0 BallotT.zero BallotT.zero ChangeT.zero ViewT.zero) (by omega)) (SM [2]) λvR=>?_
 refine au (ag (ac J5 (ae (tp (cw (r:=1) rfl rfl rfl (by decide)) ?_))));refine PS ?_;refine au (dY (sr λ_ J8=>PS ?_));refine nx J8 (aa λ_ J9=>CY (qx J9 (aa λ_ J10=>aq (sr λ_ J11=>tp (a8 (r:=1) hvw rfl jI aM rfl rfl (by omega) (by omega) rfl) ?_))));refine tp (bT (v:=(.int .i64 (((s.id+2)%5)))) rfl Y3 rfl rfl (eM 1 rfl hvw rfl) rfl) ?_;refine PS ?_;refine nx J11 (sr λ_ J12=>P2 ?_);refine FA 1939 bh aM ?_;refine LG 0 Y3 (.int .i64 (s.kept)) ?_ (hc:=by exact λa_=>(qy _ rfl));refine PS ?_;refine tp (jt (r:=(s.kept.fdiv (2^min (((s.id+2)%5)).toNat IntKind.i64.bits))) rfl rfl rfl (by omega) rfl) ?_;refine tp (om (r:=((s.kept.fdiv (2^min (((s.id+2)%5)).toNat IntKind.i64.bits))%2)) rfl rfl rfl (mask (k:=1) (by decide) _)) ?_;refine PS ?_;refine ao ?_ ?_<;>intro h33;refine nx J12 (CY (ae (P3 ?_)));refine LW 2 aY bW aG ?_;refine CZ iB (mZ V r s ([SaidT.mk ((s.id+1)%5) (MsgT.mk 0 s.id s.own 0 0 BallotT.zero BallotT.zero ChangeT.zero ViewT.zero)]) ((s.id+2)%5) (MsgT.mk 0 s.id s.own 0 0 BallotT.zero BallotT.zero ChangeT.zero ViewT.zero) (by omega)) ID λvR=>?_
 refine au (ag (ac J10 (ae (tp (cw (r:=2) rfl rfl rfl (by decide)) ?_))));refine PS ?_;refine au (dY (sr λ_ J13=>PS ?_));refine nx J13 (aa λ_ J14=>CN (bg (aF (aF (bD (WK [0] (bu rfl ?_)))))));exact MQ (by rw[e8,show oE (s.rep .nil)=[SaidT.mk ((s.id+1)%5) (MsgT.mk 0 s.id s.own 0 0 BallotT.zero BallotT.zero ChangeT.zero ViewT.zero)]++[SaidT.mk ((s.id+2)%5) (MsgT.mk 0 s.id s.own 0 0 BallotT.zero BallotT.zero ChangeT.zero ViewT.zero)]by rw[oE,gv,if_pos hid];simp[y8,uP,MsgT.zero,Adr.nil, *]]);refine nx J12 (CN (aS (ag (ac J10 (ae (tp (cw (r:=2) rfl rfl rfl (by decide)) ?_))))));refine PS ?_;refine au (dY (sr λ_ J15=>PS ?_));refine nx J15 (aa λ_ J16=>CN (bg (aF (aF (bD (WK [0] (bu rfl ?_)))))));exact MQ (by rw[e8,show oE (s.rep .nil)=[SaidT.mk ((s.id+1)%5) (MsgT.mk 0 s.id s.own 0 0 BallotT.zero BallotT.zero ChangeT.zero ViewT.zero)]by rw[oE,gv,if_pos hid];simp[y8,uP,MsgT.zero,Adr.nil, *]]);refine nx J7 (CN (aS (ag (ac J5 (ae (tp (cw (r:=1) rfl rfl rfl (by decide)) ?_))))));refine PS ?_;refine au (dY (sr λ_ J17=>PS ?_));refine nx J17 (aa λ_ J18=>CY (qx J18 (aa λ_ J19=>aq (sr λ_ J20=>tp (a8 (r:=1) hvw rfl jI aM rfl rfl (by omega) (by omega) rfl) ?_))));refine tp (bT (v:=(.int .i64 (((s.id+2)%5)))) rfl Y3 rfl rfl (eM 0 rfl hvw rfl) rfl) ?_;refine PS ?_;refine nx J20 (sr λ_ J21=>P2 ?_);refine FA 1939 bh aM ?_;refine LG 2 Y3 (.int .i64 (s.kept)) ?_ (hc:=by exact λa_=>(qy _ rfl))
 refine PS ?_;refine tp (jt (r:=(s.kept.fdiv (2^min (((s.id+2)%5)).toNat IntKind.i64.bits))) rfl rfl rfl (by omega) rfl) ?_;refine tp (om (r:=((s.kept.fdiv (2^min (((s.id+2)%5)).toNat IntKind.i64.bits))%2)) rfl rfl rfl (mask (k:=1) (by decide) _)) ?_;refine PS ?_;refine ao ?_ ?_<;>intro h33;refine nx J21 (CY (ae (P3 ?_)));refine LW 1 aY bW aG ?_;refine CZ iB (iT V r s ((s.id+2)%5) (MsgT.mk 0 s.id s.own 0 0 BallotT.zero BallotT.zero ChangeT.zero ViewT.zero) (by omega)) (SM [2]) λvR=>?_
 refine au (ag (ac J19 (ae (tp (cw (r:=2) rfl rfl rfl (by decide)) ?_))));refine PS ?_;refine au (dY (sr λ_ J22=>PS ?_));refine nx J22 (aa λ_ J23=>CN (bg (aF (aF (bD (WK [0] (bu rfl ?_)))))));exact MQ (by rw[e8,show oE (s.rep .nil)=[SaidT.mk ((s.id+2)%5) (MsgT.mk 0 s.id s.own 0 0 BallotT.zero BallotT.zero ChangeT.zero ViewT.zero)]by rw[oE,gv,if_pos hid];simp[y8,uP,MsgT.zero,Adr.nil, *]]);refine nx J21 (CN (aS (ag (ac J19 (ae (tp (cw (r:=2) rfl rfl rfl (by decide)) ?_))))));refine PS ?_;refine au (dY (sr λ_ J24=>PS ?_));refine nx J24 (aa λ_ J25=>CN (bg (aF (aF (bD (WK [2] (bu rfl ?_)))))));exact MQ (by rw[e8,show oE (s.rep .nil)=[]by rw[oE,gv,if_pos hid];simp[y8,uP,MsgT.zero,Adr.nil, *]];exact(oO _ _).symm)
theorem lW{δ:Type}(V:Env δ)(r:Nat)(s:MS δ)(y:RowT)[OkR V.toDk s]:
 DT 110 #[(.pointer (some ⟨r,0,none⟩)),(.iface V.T V.ov),(.agg (ints y.flat).toArray)] T0 [cA V r s] (dG (λ_ H=>H=[cA V r (lN V.toDk s y)])):=by
 refine BD 27 Tryz.func110 rfl rfl rfl λw0 F hF=>sr λ_ J1=>XY (ints y.flat) λb5=>?_
 refine nx J1 (sr λ_ J2=>PS ?_);refine nx J2 (aq ?_)
 refine bF (α:=(Nat)) (λk=>k≤5) (λk=>[(0,(.pointer (some ⟨r,0,none⟩))),(1,(.iface V.T V.ov)),(5,(.pointer (some ⟨b5,0,none⟩))),(7,(.int .i64 (((k:Nat):Int))))]) (λk=>[ak b5 (ints y.flat) 60,cA V r (ii V.toDk s (m9 s.id (rh s.id y) (λ_=>true) k))]) (λk=>5-k) 0
  (aR _) SB
  (λ_ q=>by
  rw[show m9 s.id (rh s.id y) (λ_=>true) 0=[]from rfl,oO]
  exact q) (λk hinv=>?_)
 obtain hk:=hinv;refine sr λ_ J3=>PS ?_
 refine ao ?_ ?_<;>intro h8;refine nx J3 (aa λ_ J4=>CY (qx J4 (aa λ_ J5=>aq (sr λ_ J6=>P2 ?_))));refine nx J6 (sr λ_ J7=>P3 ?_);refine FA 0 bh aM ?_;refine LG 1 Y3 (.int .i64 (s.id)) ?_ (hc:=by exact λa_=>(cv _ rfl));refine PS ?_;refine ao ?_ ?_<;>intro h15;refine nx J7 (CY (DC bc (cK 1 rfl rfl) (BL 0) ?_));refine PD 0 ?_;refine PD 1 ?_;refine PD 2 ?_;refine PD 3 ?_;refine PD 4 ?_;refine FD 5 0 bh aM ?_;refine ta 6 rfl (cX (v:=(.int .i64 (s.id))) rfl Y3 rfl rfl (λ_ h=>h.2.1) (λa_=>(cv _ rfl))) ?_;refine LY 7 dP aZ ah ?_;refine ta 8 rfl (kq MsgT.zero (MsgT.mk 2 s.id y 0 0 BallotT.zero BallotT.zero ChangeT.zero ViewT.zero) [(0,[Value.int .i64 2]),(1,[Value.int .i64 s.id]),(2,ints y.flat)] aY bk (g:=MsgT.sg)) ?_;refine AL 9 ?_;refine CZ iB (mZ V r s (m9 s.id (rh s.id y) (λ_=>true) k) ((k:Nat):Int) (MsgT.mk 2 s.id y 0 0 BallotT.zero BallotT.zero ChangeT.zero ViewT.zero) h15) (SM [1]) λvR=>?_
 refine EN (DN (ag (ac J5 (ae (AD ?_)))));refine PS ?_;refine au ?_
 exact aL ((k+1):(Nat)) (by omega) (by show 5- (k+1)<5-k;omega)
  SB
  (λ_ q=>by
   rw[hJ,if_pos ⟨h15,rfl⟩]
   exact aj [1,0] rfl q)
 refine nx J7 (CN (aS (ag (ac J5 (ae (AD ?_))))));refine PS ?_;refine au ?_
 exact aL ((k+1):(Nat)) (by omega) (by show 5- (k+1)<5-k;omega)
  SB
  (λ_ q=>by
   rw[hJ,if_neg (by omega)];rw[aT]
   exact aj [0,0] rfl q)
 refine nx J3 (aa λ_ J8=>CN (bg (aF (aF (bD (WK [1] (bu rfl ?_)))))));obtain rfl:k=5:=by omega
 exact rfl
theorem lV{δ:Type}(V:Env δ)(r:Nat)(s:MS δ)(v:ViewT)[OkR V.toDk s]:
 DT 109 #[(.pointer (some ⟨r,0,none⟩)),(.iface V.T V.ov),(.agg (ints v.flat).toArray)] T0 [cA V r s] (dG (λ_ H=>H=[cA V r (mW V.toDk s v)])):=by
 refine BD 23 Tryz.func109 rfl rfl rfl λw0 F hF=>sr λ_ J1=>XY (ints v.flat) λb5=>?_
 refine nx J1 (sr λ_ J2=>PS ?_);refine nx J2 (aq ?_)
 refine bF (α:=(Nat)) (λk=>k≤5) (λk=>[(0,(.pointer (some ⟨r,0,none⟩))),(1,(.iface V.T V.ov)),(5,(.pointer (some ⟨b5,0,none⟩))),(7,(.int .i64 (((k:Nat):Int))))]) (λk=>[ak b5 (ints v.flat) 44,cA V r (ii V.toDk s (m9 s.id (jx v) (λ_=>true) k))]) (λk=>5-k) 0
  (aR _) SB
  (λ_ q=>by
  rw[show m9 s.id (jx v) (λ_=>true) 0=[]from rfl,oO]
  exact q) (λk hinv=>?_)
 obtain hk:=hinv;refine sr λ_ J3=>PS ?_
 refine ao ?_ ?_<;>intro h8;refine nx J3 (aa λ_ J4=>CY (qx J4 (aa λ_ J5=>aq (sr λ_ J6=>P2 ?_))));refine nx J6 (sr λ_ J7=>P3 ?_);refine FA 0 bh aM ?_;refine LG 1 Y3 (.int .i64 (s.id)) ?_ (hc:=by exact λa_=>(cv _ rfl));refine PS ?_;refine ao ?_ ?_<;>intro h15;refine nx J7 (CY (ae (P3 ?_)));refine LW 0 eF bf an ?_;refine tp (kq MsgT.zero (MsgT.mk 7 0 RowT.zero 0 0 BallotT.zero BallotT.zero ChangeT.zero v) [(0,[Value.int .i64 7]),(8,ints v.flat)] aY bk (g:=MsgT.sg)) ?_;refine CZ iB (mZ V r s (m9 s.id (jx v) (λ_=>true) k) ((k:Nat):Int) (MsgT.mk 7 0 RowT.zero 0 0 BallotT.zero BallotT.zero ChangeT.zero v) h15) (SM [1]) λvR=>?_
 refine au (ag (ac J5 (ae (AD ?_))));refine PS ?_;refine au ?_
 exact aL ((k+1):(Nat)) (by omega) (by show 5- (k+1)<5-k;omega)
  SB
  (λ_ q=>by
   rw[hJ,if_pos ⟨h15,rfl⟩]
   exact aj [1,0] rfl q)
 refine nx J7 (CN (aS (ag (ac J5 (ae (AD ?_))))));refine PS ?_;refine au ?_
 exact aL ((k+1):(Nat)) (by omega) (by show 5- (k+1)<5-k;omega)
  SB
  (λ_ q=>by
   rw[hJ,if_neg (by omega)];rw[aT]
   exact aj [0,0] rfl q)
 refine nx J3 (aa λ_ J8=>CN (bg (aF (aF (bD (WK [1] (bu rfl ?_)))))));obtain rfl:k=5:=by omega
 exact rfl
theorem Eh{δ:Type}(V:Env δ)(r lg:Nat)(x:RepT)(m:RecT)(e:δ)(l:List SaidT)(hlog:x.log= .pointer (some ⟨lg,0,none⟩))(hok:V.ok e):
 DT 136 #[(.pointer (some ⟨r,0,none⟩)),(.agg (ints m.flat).toArray)] T0 [ak r (RepT.cells x) 123,V.lg lg e,V.E e l] (RI (.int .i64 (V.pt e (jq m)).2) [ak r (RepT.cells x) 123,V.lg lg (V.pt e (jq m)).1,V.E (V.pt e (jq m)).1 l]):=by
 refine BD 12 Tryz.func136 rfl rfl rfl λw0 F hF=>sr λ_ J1=>XY (ints m.flat) λb3=>?_
 refine PS ?_;refine nx J1 (aa λ_ J2=>D2 1 0 bc ?_);refine PD 0 ?_;refine PD 1 ?_;refine FD 2 1 bh Jv ?_;refine LX 3 Tryz.underlying114 (.pointer (some ⟨lg,0,none⟩)) ?_ (hc:=by exact(RepT.at_log x rfl).trans (congrArg some hlog));refine LY 4 io iw bi ?_;refine AL 5 ?_;refine CR L0 (zX m) ID λvR HR hR=>?_
 obtain⟨_,rfl,rfl⟩:=hR;revert vR;intro ue;refine EN (AL 6 ?_);refine CF Ko (V.put lg ue (jq m) e l hok (Az m)) (SM [3,3]) (λg d s=>GT (tL 0 rfl rfl g d s)) ?_;refine EN (PD 7 ?_);exact DN (ac J2 (ai (WK [4,0,0] (ap rfl rfl ⟨rfl,rfl⟩))))
theorem km{δ:Type}(V:Env δ)(r:Nat)(s:MS δ)(m:RecT)[hs:OkR V.toDk s]:DT 136 #[.pointer (some ⟨r,0,none⟩), .agg (ints m.flat).toArray] T0 [cA V r s] (RI (.int .i64 (rc V.toDk s m)) [cA V r (dT V.toDk s m)]):=
 Leg.Does.pack λa=>Leg.Does.withinR (Eh V r a.lg (s.rep a) m s.e s.o rfl hs.e) (λ_ _ _ _=>trivial) (λ_ q=>aA [0,0,2] rfl q) λv H hp=>by
  obtain⟨h1,rfl⟩:=hp;exact⟨_,λ_ q=>bm (p:=λa:Adr=>[ak r (RepT.cells ((dT V.toDk s m).rep a)) 123,V.lg a.lg (dT V.toDk s m).e,own a.rs (dT V.toDk s m).replies.length (ints ((dT V.toDk s m).replies.flatMap ReplyT.flat)) 37 3,DF a.vo (dT V.toDk s m).vote,V.E (dT V.toDk s m).e (dT V.toDk s m).o]) a (aA [0,0,1,1,0] rfl q),h1,rfl⟩
theorem eG{δ:Type}(V:Env δ)(r:Nat)(s:MS δ)(op err val:Int)(hrs:s.replies.length≤1000000):DT 97 #[.pointer (some ⟨r,0,none⟩), .int .i64 op, .int .i64 err, .int .i64 val] T0 [cA V r s] (dG (λ_ H=>H=[cA V r (db s op err val)])):=
 Leg.Does.pack λa=>Leg.Does.withinR (Bz r (s.rep a) op err val s.replies hrs) (λ_ _ _ _=>trivial) (λ_ q=>aA [0,1] rfl q) λv H hp=>by
  obtain⟨v',_,rfl⟩:=hp;exact⟨_,λ_ q=>bm (p:=λa:Adr=>[ak r (RepT.cells ((db s op err val).rep a)) 123,V.lg a.lg (db s op err val).e,own a.rs (db s op err val).replies.length (ints ((db s op err val).replies.flatMap ReplyT.flat)) 37 3,DF a.vo (db s op err val).vote,V.E (db s op err val).e (db s op err val).o]) {a with rs:=v'} (aA [0,1,0,0,0] rfl q),rfl⟩
theorem qj{δ:Type}(V:Env δ)(r:Nat)(s:MS δ)(y:RowT)(op:Int)[OkR V.toDk s][OkRow y]:
 DT 98 #[(.pointer (some ⟨r,0,none⟩)),(.iface V.T V.ov),(.agg (ints y.flat).toArray),(.int .i64 (op))] T0 [cA V r s] (RI (.int .i64 (eA V.toDk s y op).2) [cA V r (eA V.toDk s y op).1]):=by
 refine BD 34 Tryz.func98 rfl rfl rfl λw0 F hF=>sr λ_ J1=>XY (ints y.flat) λb6=>?_
 refine PS ?_;refine nx J1 (aa λ_ J2=>sr λ_ J3=>PS ?_);refine LW 0 dP aZ ah ?_;refine tp (kq RecT.zero (RecT.mk 0 0 y 0 BallotT.zero ChangeT.zero ViewT.zero) [(0,[Value.int .i64 0]),(2,ints y.flat)] io eL (g:=RecT.sg)) ?_;refine CE vc (km V r s (jW y)) (SM [1]) ?_;refine PS ?_;refine nx J3 (sr λ_ J4=>P2 ?_);refine ao ?_ ?_<;>intro h15;refine nx J4 (CY (sr λ_ J5=>P2 ?_));refine nx J5 (ai (ad (WK [0] (ap rfl rfl ?_))));have e:eA V.toDk s y op=(dT V.toDk s (jW y),rc V.toDk s (jW y)):=if_pos h15;exact jd e;refine nx J4 (CN (qx J2 (sr λ_ J6=>P4 ?_)));refine LW 1 dP aZ ah ?_;refine P2 ?_;refine FA 9 bh aZ ?_;refine gr (vs:=ints y.flat) (i:=0) (ab rfl) rfl rfl rfl rfl rfl (by rw[(ah y)];exact aZ) (bv _) rfl rfl (λ_=>LC (cJ _) (ah _)) (λa_=>(Mr ((dT V.toDk s (jW y)).rep a_) 0 rfl (by have h1:=(ah y);omega) (cu ((ah (((dT V.toDk s (jW y)).rep a_).own)).trans (ah y).symm)))) (PS ?_);refine FA 1938 bh kd ?_;refine SK 0 kd (λ_=>cJ _) ?_ (hc:=by exact λa_=>(Mf _ rfl _));refine PS ?_;refine FA 1939 bh aM ?_;refine SK 0 aM (λ_=>cJ _) ?_ (hc:=by exact λa_=>(Me _ rfl _));refine PS ?_;refine FA 1940 bh aM ?_;refine SK 0 aM (λ_=>cJ _) ?_ (hc:=by exact λa_=>(RepT.set_waits _ rfl _));refine nx J6 (sr λ_ J7=>P2 ?_);refine CZ Gd (mJ V r (s9 (dT V.toDk s (jW y)) y op)) ID λvR=>?_
 refine nx J7 (sr λ_ J8=>PS ?_);refine nx J8 (ai (WK [0] (ap rfl rfl ?_)));have e:eA V.toDk s y op=(e8 V.toDk (s9 (dT V.toDk s (jW y)) y op),0):=if_neg h15;exact jd e
theorem n4(x:RowT)(who:Int)(d:RowT):
 DT 152 #[(.agg (ints x.flat).toArray),(.int .i64 (who)),(.agg (ints d.flat).toArray)] T0 [] (RI (.tuple #[.agg (ints (dD x who d).1.flat).toArray, .int .i64 (dD x who d).2]) []):=by
 refine BD 68 Tryz.func152 rfl rfl rfl λw0 F hF=>sr λ_ J1=>XY (ints x.flat) λb3=>?_
 refine XY (ints d.flat) λb5=>?_
 refine XZ tS (ints RowT.zero.flat) λb6=>?_
 refine PS ?_;refine nx J1 (aa λ_ J2=>sr λ_ J3=>PS ?_);refine CE C0 (jy who) ID ?_;refine aX ?_ ?_<;>intro h11;have hw:cD who=true:=by simpa using h11
 have hw2:0≤who∧who<5:=of_decide_eq_true hw;refine PS ?_;refine nx J3 (CN (qx J2 (aa λ_ J4=>sr λ_ J5=>PS ?_)));refine FA 29 dP fE ?_;refine IX (29+who.toNat) lR aM ?_;refine LT 2 Y3 (.int .i64 ((x.heir[who.toNat]'(by omega)))) ?_ (hc:=by exact qw x (who.toNat) (by omega) (by omega) (jJ x.heir (by omega)));refine PS ?_;refine ao ?_ ?_<;>intro h18;refine nx J5 (CY (sr λ_ J6=>BV ((ints RowT.zero.flat).toArray) ?_));refine SW 0 aZ ah ?_;refine PS ?_;refine nx J6 (ai (ad (RT 0 [] dP aZ (ah _) ?_)));have e:dD x who d=(.zero,8):=by rw[dD,hw,fu,dif_pos hw,if_neg (by decide),if_pos h18]
 exact⟨by rw[e],rfl⟩;refine nx J5 (CN (qx J4 (aa λ_ J7=>D1 1 bc ?_)));refine PD 0 ?_;refine PD 1 ?_;refine FD 2 0 dP aM ?_;refine LR 3 Y3 (cz d rfl) ?_;refine ta 4 rfl (cw (r:=(fT (d.version+1))) rfl rfl rfl rfl) ?_;refine FD 5 1 dP kH ?_;refine ta 6 rfl (aJ (vs:=ints (bL d.cells.toList)) rfl zc rfl kH rfl (λ_ h=>h.2.1) (dQ d.cells) (A2 d 0 rfl (by decide) (bj (dQ d.cells)))) ?_;refine FD 7 29 dP fE ?_;refine IY 8 (29+who.toNat) lR aM ?_;refine FD 10 34 dP zw ?_;refine AL 9 ?_;refine bS (i:=2) (ab rfl) rfl rfl rfl rfl rfl aM rfl rfl (LB (ah _)) (RowT.st_heir x (who.toNat) (by omega) (by omega) (xa x.heir (by omega) _)) rfl (EN (IY 11 (34+who.toNat*28) Iv kH ?_));refine AL 12 ?_;refine ci (vs:=ints (bL d.cells.toList)) (i:=2) (ab rfl) rfl rfl rfl rfl rfl (by rw[(dQ d.cells)];exact kH) (bv _) rfl rfl (LC (ah _) (dQ _)) (RowT.wr_left_ (RowT.mk x.version x.cells (x.heir.set who.toNat (fT (d.version+1)) (by omega)) x.left) (who.toNat*28) (by omega) (by have h1:=(dQ d.cells);omega) (ug rY x.left (i:=who.toNat) 0 (by omega) (by omega) (by have h1:=(dQ d.cells);omega) (cu ((dQ (x.left[who.toNat]'(by omega))).trans (dQ d.cells).symm)))) rfl (EN (DN (ac J7 (aa λ_ J8=>sr λ_ J9=>FA 29 dP fE ?_))));refine tp (aJ (vs:=ints d.heir.toList) rfl lR rfl fE rfl (RO 1) (iQ d.heir) (Ma d 0 rfl (by decide) (bj (iQ d.heir)))) ?_;refine PS ?_;refine nx J9 (aq ?_)
 refine bF (α:=(Nat)×(RowT)) (λ⟨k,y⟩=>k≤5∧y=nh x who d k) (λ⟨k,y⟩=>[(1,(.int .i64 (who))),(3,(.pointer (some ⟨b3,0,none⟩))),(5,(.pointer (some ⟨b5,0,none⟩))),(6,(.pointer (some ⟨b6,0,none⟩))),(7,(.int .i64 0)),(32,(.agg (ints d.heir.toList).toArray)),(33,(.int .i64 (((k:Nat):Int))))]) (λ⟨k,y⟩=>[ak b6 (ints RowT.zero.flat) 60,ak b5 (ints d.flat) 60,ak b3 (ints y.flat) 60]) (λ⟨k,y⟩=>5-k) (0,(RowT.mk x.version x.cells (x.heir.set who.toNat (fT (d.version+1)) (by omega)) (x.left.set who.toNat d.cells (by omega))))
  ⟨aR _,by rw[nh,nF,dif_pos hw];rfl⟩ SB
  (λ_ s=>aj [0,0,0] rfl s) (λ⟨k,y⟩ hinv=>?_)
 obtain⟨hk,hy⟩:=hinv;refine sr λ_ J10=>PS ?_
 refine ao ?_ ?_<;>intro h34;refine nx J10 (aa λ_ J11=>CY (qx J11 (aa λ_ J12=>aq (sr λ_ J13=>PS ?_))));refine tp (qF (cs:=ints d.heir.toList) (v:=Value.int .i64 (d.heir[k]'(by omega))) (r:=k) rfl lR Y3 rfl aM rfl rfl (by omega) (by omega) (by omega) (jJ d.heir (by omega))) ?_;refine P2 ?_;refine nx J13 (sr λ_ J14=>P3 ?_);refine ao ?_ ?_<;>intro h39;refine P3 ?_;refine ao ?_ ?_<;>intro h42;refine P3 ?_;refine FA 29 dP fE ?_;refine IX (29+k) lR aM ?_;refine LT 2 Y3 (.int .i64 ((y.heir[k]'(by omega)))) ?_ (hc:=by exact qw y k (by omega) (by omega) (jJ y.heir (by omega)));refine PS ?_;refine ao ?_ ?_<;>intro h49;refine PS ?_;refine nx J14 (CY (D1 1 bc ?_));refine PD 0 ?_;refine PD 1 ?_;refine PD 2 ?_;refine PD 3 ?_;refine FD 4 34 dP zw ?_;refine IY 5 (34+k*28) Iv kH ?_;refine ta 6 rfl (aJ (vs:=ints (bL (d.left[k]'(by omega)).toList)) rfl zc rfl kH rfl (λ_ h=>h.2.1) (dQ (d.left[k]'(by omega))) (Dt d (k*28) (by omega) (by omega) (jT rY d.left (i:=k) 0 (by omega) (by omega) (by decide) (bj (dQ (d.left[k]'(by omega))))))) ?_;refine FD 7 29 dP fE ?_;refine IY 8 (29+k) lR aM ?_;refine FD 10 34 dP zw ?_;refine AL 9 ?_;refine bS (i:=2) (ab rfl) rfl rfl rfl rfl rfl aM rfl rfl (LB (ah _)) (RowT.st_heir y k (by omega) (by omega) (xa y.heir (by omega) _)) rfl (EN (IY 11 (34+k*28) Iv kH ?_));refine AL 12 ?_
 refine ci (vs:=ints (bL (d.left[k]'(by omega)).toList)) (i:=2) (ab rfl) rfl rfl rfl rfl rfl (by rw[(dQ (d.left[k]'(by omega)))];exact kH) (bv _) rfl rfl (LC (ah _) (dQ _)) (RowT.wr_left_ (RowT.mk y.version y.cells (y.heir.set k (d.heir[k]'(by omega)) (by omega)) y.left) (k*28) (by omega) (by have h1:=(dQ (d.left[k]'(by omega)));omega) (ug rY y.left (i:=k) 0 (by omega) (by omega) (by have h1:=(dQ (d.left[k]'(by omega)));omega) (cu ((dQ (y.left[k]'(by omega))).trans (dQ (d.left[k]'(by omega))).symm)))) rfl (EN (DN (ag (ac J12 (ae (AD ?_))))));refine PS ?_;refine au ?_
 exact aL ((k+1,(RowT.mk y.version y.cells (y.heir.set k (d.heir[k]'(by omega)) (by omega)) (y.left.set k (d.left[k]'(by omega)) (by omega)))):(Nat)×(RowT)) ⟨by omega,by rw[nQ,←hy,mD,fZ _ (by omega),fZ _ (by omega),if_pos ⟨by omega,by omega,by omega⟩,Bs _ (by omega),EG _ (by omega)]⟩ (by show 5- (k+1)<5-k;omega)
  SB
  (λ_ s=>aj [0,0,0] rfl s)
 refine PS ?_;refine nx J14 (CN (aS (ag (ac J12 (ae (AD ?_))))));refine PS ?_;refine au ?_
 exact aL ((k+1,y):(Nat)×(RowT)) ⟨by omega,by rw[nQ,←hy,mD,fZ _ (by omega),fZ _ (by omega),if_neg (by omega)]⟩ (by show 5- (k+1)<5-k;omega)
  SB
  (λ_ s=>aj [0,0,0] rfl s)
 refine P2 ?_
 iterate 5 refine UF ?_
 refine PS ?_;refine nx J14 (CN (aS (ag (ac J12 (ae (AD ?_))))));refine PS ?_;refine au ?_
 exact aL ((k+1,y):(Nat)×(RowT)) ⟨by omega,by rw[nQ,←hy,mD,fZ _ (by omega),fZ _ (by omega),if_neg (by omega)]⟩ (by show 5- (k+1)<5-k;omega)
  SB
  (λ_ s=>aj [0,0,0] rfl s)
 refine PS ?_;refine UF ?_;refine UF ?_;refine P2 ?_
 iterate 5 refine UF ?_
 refine PS ?_;refine nx J14 (CN (aS (ag (ac J12 (ae (AD ?_))))));refine PS ?_;refine au ?_
 exact aL ((k+1,y):(Nat)×(RowT)) ⟨by omega,by rw[nQ,←hy,mD,fZ _ (by omega),fZ _ (by omega),if_neg (by omega)]⟩ (by show 5- (k+1)<5-k;omega)
  SB
  (λ_ s=>aj [0,0,0] rfl s)
 refine nx J10 (aa λ_ J15=>CN (bg (aF (aF (bD (ac J8 (sr λ_ J16=>FA 0 dP aM ?_)))))));refine LU 2 Y3 (cz y rfl) ?_;refine tp (cw (r:=(fT (y.version+1))) rfl rfl rfl rfl) ?_;refine FA 0 dP aM ?_;refine bS (i:=2) (ab rfl) rfl rfl rfl rfl rfl aM rfl rfl (LB (ah _)) (wc y rfl _) rfl (nx J16 (sr λ_ J17=>LW 2 dP aZ ah ?_));refine SW 0 aZ ah ?_;refine PS ?_;refine nx J17 (ai (RT 0 [] dP aZ (ah _) ?_));obtain rfl:k=5:=by omega
 subst hy;have e:dD x who d=({nh x who d 5 with version:=fT ((nh x who d 5).version+1)},0):=by rw[dD,hw,fu,dif_pos hw,if_neg (by decide),if_neg h18]
 exact⟨by rw[e],rfl⟩;refine PS ?_;refine nx J3 (CY (sr λ_ J18=>BV ((ints RowT.zero.flat).toArray) ?_));refine SW 0 aZ ah ?_;refine PS ?_;refine nx J18 (ai (ad (RT 0 [] dP aZ (ah _) ?_)));have hw:cD who=false:=by simpa using h11
 have e:dD x who d=(.zero,5):=by rw[dD,hw];rfl
 exact⟨by rw[e],rfl⟩
theorem xJ{δ:Type}(V:Env δ)(r:Nat)(s:MS δ)[OkR V.toDk s]:
 DT 150 #[(.pointer (some ⟨r,0,none⟩))] T0 [cA V r s] (dG (λr' H=>∃u,r'=u∧H=[own u (br s).length (ints (br s)) 3 1,cA V r s])):=by
 refine BD 44 Tryz.func150 rfl rfl rfl λw0 F hF=>sr λ_ J1=>PS ?_
 refine nx J1 (sr λ_ J2=>PS ?_);refine nx J2 (aa λ_ J3=>sr λ_ J4=>PS ?_);refine nx J4 (aq ?_)
 refine bF (α:=(Nat)×(Value)) (λ⟨k,u⟩=>k≤5∧u.oneCell'=true) (λ⟨k,u⟩=>[(0,(.pointer (some ⟨r,0,none⟩))),(2,(.slice none 0 0)),(3,u),(7,(.int .i64 (((k:Nat):Int))))]) (λ⟨k,u⟩=>[own u ((gE s k).length) (ints (gE s k)) 3 1,cA V r s]) (λ⟨k,u⟩=>5-k) (0,(.slice none 0 0))
  ⟨aR _,rfl⟩ SB
  (λ_ s=>fJ 3 1 (aj [0] rfl s)) (λ⟨k,u⟩ hinv=>?_)
 obtain⟨hk,hu⟩:=hinv;have hol:=EU s k;refine sr λ_ J5=>PS ?_
 refine ao ?_ ?_<;>intro h8;refine nx J5 (aa λ_ J6=>CY (qx J6 (aa λ_ J7=>aq (sr λ_ J8=>P2 ?_))));refine nx J8 (sr λ_ J9=>P2 ?_);refine FA 2 bh bf ?_;refine LZ 1 eF bf an s.view ?_ (hc:=by exact λ_=>cT _);refine PS ?_;refine CE IU (sD s.view ((k:Nat):Int) OkVw.rng) ID ?_;refine P3 ?_;refine aX ?_ ?_<;>intro h18;refine P2 ?_;refine nx J9 (sr λ_ J10=>?_)
 iterate 5 refine PS ?_
 refine FA 0 bh aM ?_;refine LG 1 Y3 (.int .i64 (s.id)) ?_ (hc:=by exact λa_=>(cv _ rfl));refine PS ?_;refine ao ?_ ?_<;>intro h26
 iterate 5 refine PS ?_
 refine FA 9 bh aZ ?_;refine FA 38 dP fE ?_;refine IX (38+k) lR aM ?_;refine LG 1 Y3 (.int .i64 ((s.own.heir[k]'(by omega)))) ?_ (hc:=by exact λa_=>(RepT.pt_own (s.rep a_) (29+k) (by omega) (by omega) (qw ((s.rep a_).own) k (by omega) (by omega) (jJ (((s.rep a_).own).heir) (by omega)))));refine PS ?_;refine ao ?_ ?_<;>intro h36;refine PS ?_;refine nx J10 (CY (ae (P2 ?_)));refine aP (cells:=#[(.int .i64 (((k:Nat):Int)))]) (ab rfl) rfl rfl rfl jI qh rfl rfl rfl (by as_aux_lemma=>kernel_rfl) (λb40=>co (k:=1) (news:=[(.int .i64 (((k:Nat):Int)))]) (nn':=(gE s k).length+1) (xs':=ints (gE s k)++[(.int .i64 (((k:Nat):Int)))]) (ab rfl) rfl rfl rfl jI qh rfl rfl rfl rfl rfl rfl (λ_ _=>gJ rfl (RO 0) rfl) (by simp[Value.oneCell']) (by simp only[maxLen];omega) (by omega) (by simp) (by simp) (λv41 ov41=>PS ?_));refine au (ag (ac J7 (ae (AD ?_))));refine PS ?_;refine au ?_
 exact aL ((k+1,v41):(Nat)×(Value)) ⟨by omega,ov41⟩ (by show 5- (k+1)<5-k;omega)
  SB
  (λ_ q=>by
   show bI [own v41 (gE s (k+1)).length (ints (gE s (k+1))) 3 1,cA V r s] _;rw[show gE s (k+1)=gE s k++[((k:Nat):Int)]by rw[nS,if_pos (I5 h18 h26 (by rw[fZ _ (by omega)];exact h36))],af,dX]
   exact aj [1,1] rfl q)
 refine PS ?_;refine nx J10 (CN (aS (ag (ac J7 (ae (AD ?_))))));refine PS ?_;refine au ?_
 exact aL ((k+1,u):(Nat)×(Value)) ⟨by omega,hu⟩ (by show 5- (k+1)<5-k;omega)
  SB
  (λ_ q=>by
   show bI [own u (gE s (k+1)).length (ints (gE s (k+1))) 3 1,cA V r s] _;rw[show gE s (k+1)=gE s k by rw[nS,if_neg (by intro hq;have h2:=yQ hq;rw[fZ _ (by omega)]at h2;first|omega| (simp_all;done)| (simp_all;omega)),aT]]
   exact aj [0,0] rfl q)
 refine P2 ?_
 iterate 8 refine UF ?_
 refine PS ?_;refine nx J10 (CN (aS (ag (ac J7 (ae (AD ?_))))));refine PS ?_;refine au ?_
 exact aL ((k+1,u):(Nat)×(Value)) ⟨by omega,hu⟩ (by show 5- (k+1)<5-k;omega)
  SB
  (λ_ q=>by
   show bI [own u (gE s (k+1)).length (ints (gE s (k+1))) 3 1,cA V r s] _;rw[show gE s (k+1)=gE s k by rw[nS,if_neg (by intro hq;have h2:=yQ hq;rw[fZ _ (by omega)]at h2;first|omega| (simp_all;done)| (simp_all;omega)),aT]]
   exact aj [0,0] rfl q)
 refine P2 ?_;refine nx J9 (sr λ_ J11=>P2 ?_)
 iterate 6 refine UF ?_
 refine P2 ?_
 iterate 8 refine UF ?_
 refine PS ?_;refine nx J11 (CN (aS (ag (ac J7 (ae (AD ?_))))));refine PS ?_;refine au ?_
 exact aL ((k+1,u):(Nat)×(Value)) ⟨by omega,hu⟩ (by show 5- (k+1)<5-k;omega)
  SB
  (λ_ q=>by
   show bI [own u (gE s (k+1)).length (ints (gE s (k+1))) 3 1,cA V r s] _;rw[show gE s (k+1)=gE s k by rw[nS,if_neg (by intro hq;have h2:=yQ hq;rw[fZ _ (by omega)]at h2;first|omega| (simp_all;done)| (simp_all;omega)),aT]]
   exact aj [0,0] rfl q)
 refine nx J5 (aa λ_ J12=>CN (bg (aF (aF (bD (ac J3 (sr λ_ J13=>P2 ?_)))))));refine nx J13 (ai (WK [0,0] (ap rfl rfl ?_)));obtain rfl:k=5:=by omega
 exact⟨u,rfl,rfl⟩
theorem mz{δ:Type}(V:Env δ)(r:Nat)(s:MS δ)(who w:Int)(hm:cD who=true)(hw:0≤w∧w<5):
 DT 151 #[(.pointer (some ⟨r,0,none⟩)),(.int .i64 (who)),(.int .i64 (w))] T0 [cA V r s] (RI (.bool (uk s who w)) [cA V r s]):=by
 refine BD 17 Tryz.func151 rfl rfl rfl λw0 F hF=>?_
 have hm2:0≤who∧who<5:=of_decide_eq_true hm;refine sr λ_ J1=>PS ?_
 refine nx J1 (sr λ_ J2=>P3 ?_);refine FA 1943 bh fE ?_;refine IX (1943+who.toNat) lR aM ?_;refine LG 0 Y3 (.int .i64 ((s.told[who.toNat]'(by omega)))) ?_ (hc:=by exact λa_=>(Ms (s.rep a_) (who.toNat) (by omega) (by omega) (jJ ((s.rep a_).told) (by omega))));refine PS ?_;refine tp (jt (r:=((s.told[who.toNat]'(by omega)).fdiv (2^min w.toNat IntKind.i64.bits))) rfl rfl rfl (by omega) rfl) ?_;refine tp (om (r:=(((s.told[who.toNat]'(by omega)).fdiv (2^min w.toNat IntKind.i64.bits))%2)) rfl rfl rfl (mask (k:=1) (by decide) _)) ?_;refine P2 ?_;refine nx J2 (ai (WK [0] (ap rfl rfl ?_)));exact⟨by rw[uk,pY,dif_pos hm],rfl⟩
theorem nV{δ:Type}(V:Env δ)(r:Nat)(s:MS δ)[OkR V.toDk s]:
    DT 107 #[(.pointer (some ⟨r,0,none⟩)),(.iface V.T V.ov)] T0 [cA V r s] (dG (λ_ H=>H=[cA V r (mg V.toDk s)])):=by
 refine BD 80 Tryz.func107 rfl rfl rfl λw0 F hF=>sr λ_ J1=>PS ?_
 refine CR Ic (xJ V r s) ID λvR HR hR=>?_
 obtain⟨_,rfl,rfl⟩:=hR;revert vR;intro ud;refine gR 0 rfl rfl (λhlud houd=>PS ?_);refine nx J1 (aa λ_ J2=>sr λ_ J3=>P2 ?_);refine FA 1938 bh kd ?_;refine LG 1 Y4 (.bool (s.busy)) ?_ (hc:=by exact λa_=>(wT _ rfl));refine aX ?_ ?_<;>intro h19;refine PS ?_
 iterate 3 refine UT ?_
 refine PS ?_;refine nx J3 (CY (ai (ad (WK [1] (du rfl ?_)))));exact congrArg (λq=>[cA V r q]) (show s=mg V.toDk s from(if_pos (by rw[h19];rfl)).symm);refine P2 ?_;refine tq (cY rfl jI rfl hlud) ?_;refine PS ?_;refine ao ?_ ?_<;>intro h23;refine PS ?_;refine nx J3 (CY (ai (ad (WK [1] (du rfl ?_)))));exact congrArg (λq=>[cA V r q]) (show s=mg V.toDk s from(if_pos (by rw[h19,decide_eq_true (by omega)];rfl)).symm);refine PS ?_;refine nx J3 (CN (qx J2 (aa λ_ J4=>sr λ_ J5=>PS ?_)));refine tp (cY rfl jI rfl hlud) ?_;refine PS ?_;refine nx J5 (aq ?_)
 refine bF (α:=(Nat)) (λk=>k≤(br s).length∧∀j,j<k→∀w∈gv ((br s).getD j 0),uk s ((br s).getD j 0) w=true) (λk=>[(0,(.pointer (some ⟨r,0,none⟩))),(1,(.iface V.T V.ov)),(4,ud),(25,ud),(26,(.int .i64 ((((br s).length:Nat):Int)))),(27,(.int .i64 (((k:Nat):Int))))]) (λk=>[own ud ((br s).length) (ints (br s)) 3 1,cA V r s]) (λk=>(br s).length-k) 0
     ⟨aR _,λj h=>absurd h (by omega)⟩ SB
     (λ_ s=>s) (λk hinv=>?_)
 obtain⟨hk,hal⟩:=hinv;refine sr λ_ J6=>PS ?_
 refine ao ?_ ?_<;>intro h28;refine nx J6 (aa λ_ J7=>CY (qx J7 (aa λ_ J8=>aq (sr λ_ J9=>?_))));have hmm1:(br s).getD k 0∈br s:=by rw[List.getD_eq_getElem?_getD,List.getElem?_eq_getElem (by omega)];exact cL _
 have hm1:cD ((br s).getD k 0)=true:=(vF hmm1).1;have hn1:0≤(br s).getD k 0∧(br s).getD k 0<5:=of_decide_eq_true hm1;refine gG 0 rfl rfl (by omega) (λge1 ce1 he1 _=>tp (a8 (r:=k) he1 rfl jI aM rfl rfl (by omega) (by omega) (by omega)) ?_);refine tp (bT (v:=(.int .i64 (((br s).getD k 0)))) rfl Y3 rfl rfl (eM 0 rfl he1 rfl) (vu (by omega))) ?_;refine PS ?_;refine nx J9 (sr λ_ J10=>PS ?_);refine CR FY (pu ((br s).getD k 0) hm1) ID λvR HR hR=>?_
 obtain⟨_,rfl,rfl⟩:=hR;revert vR;intro uw;refine gR 0 rfl rfl (λhluw _=>gG 0 rfl rfl (by omega) (λgw capw hvw hcapw=>tp (cY rfl jI rfl hluw) ?_));refine PS ?_;refine nx J10 (aq (qD 2 (sr λ_ J11=>PS ?_)));refine nx J11 (aa λ_ J12=>CY (qx J12 (aa λ_ J13=>aq (sr λ_ J14=>tp (a8 (r:=0) hvw rfl jI aM rfl rfl (by omega) (by omega) rfl) ?_))));refine tp (bT (v:=(.int .i64 (((((br s).getD k 0)+1)%5)))) rfl Y3 rfl rfl (eM 0 rfl hvw rfl) rfl) ?_;refine PS ?_;refine nx J14 (sr λ_ J15=>P3 ?_);refine CE C2 (mz V r s ((br s).getD k 0) ((((br s).getD k 0)+1)%5) hm1 (by omega)) (SM [2]) ?_;refine aX ?_ ?_<;>intro h41;refine PS ?_;refine nx J15 (CN (aS (ag (ac J13 (ae (tp (cw (r:=1) rfl rfl rfl (by decide)) ?_))))));refine PS ?_;refine au (dY (sr λ_ J16=>PS ?_));refine nx J16 (aa λ_ J17=>CY (qx J17 (aa λ_ J18=>aq (sr λ_ J19=>tp (a8 (r:=1) hvw rfl jI aM rfl rfl (by omega) (by omega) rfl) ?_))));refine tp (bT (v:=(.int .i64 (((((br s).getD k 0)+2)%5)))) rfl Y3 rfl rfl (eM 1 rfl hvw rfl) rfl) ?_;refine PS ?_;refine nx J19 (sr λ_ J20=>P3 ?_);refine CE C2 (mz V r s ((br s).getD k 0) ((((br s).getD k 0)+2)%5) hm1 (by omega)) ID ?_;refine aX ?_ ?_<;>intro h41;refine PS ?_;refine nx J20 (CN (aS (ag (ac J18 (ae (tp (cw (r:=2) rfl rfl rfl (by decide)) ?_))))));refine PS ?_;refine au (dY (sr λ_ J21=>PS ?_));refine nx J21 (aa λ_ J22=>CN (bg (aF (aF (bD (ag (ac J8 (ae (AD ?_)))))))));refine PS ?_
 refine au ?_
 exact aL ((k+1):(Nat)) ⟨by omega,λj hj=>by
        by_cases q:j=k
        · subst q
          intro w hw;rw[gv,if_pos hm1]at hw;simp only[cf,List.not_mem_nil,or_false]at hw;rcases hw with rfl|rfl<;>assumption
        · exact hal j (by omega)⟩ (by show(br s).length- (k+1)< (br s).length-k;omega)
   SB
   (λ_ s=>aj [2,0] rfl s)
 refine PS ?_;refine nx J20 (CY (ai (aH (ad (ad (aH (aH (ad (ad (aH (ad ?_)))))))))));refine WK [0] (du rfl ?_)
 have hb: ¬tJ s=true:=λh=>by
   have h2:=List.all_eq_true.1 (List.all_eq_true.1 h _ hmm1) (((br s).getD k 0+2)%5) (by rw[gv,if_pos hm1];simp);rw[h41]at h2;cases h2
 exact MQ (by rw[mg,if_neg (by rw[h19,decide_eq_false (by omega)];decide),if_neg hb]);refine PS ?_;refine nx J15 (CY (ai (aH (ad (ad (aH (aH (ad (ad (aH (ad ?_)))))))))));refine WK [0] (du rfl ?_)
 have hb: ¬tJ s=true:=λh=>by
   have h2:=List.all_eq_true.1 (List.all_eq_true.1 h _ hmm1) (((br s).getD k 0+1)%5) (by rw[gv,if_pos hm1];simp);rw[h41]at h2;cases h2
 exact MQ (by rw[mg,if_neg (by rw[h19,decide_eq_false (by omega)];decide),if_neg hb]);refine nx J6 (aa λ_ J23=>CN (bg (aF (aF (bD (ac J4 (sr λ_ J24=>P2 ?_)))))));refine FA 9 bh aZ ?_;refine LZ 1 dP aZ ah s.own ?_ (hc:=by exact λ_=>Iy _);refine XZ tS (ints RowT.zero.flat) λb9=>?_
 refine SW 0 aZ ah ?_;refine nx J24 (aa λ_ J25=>sr λ_ J26=>PS ?_);refine tp (cY rfl jI rfl hlud) ?_;refine PS ?_;refine nx J26 (aq ?_)
 refine bF (α:=(Nat)×(RowT)) (λ⟨q,y⟩=>q≤(br s).length∧y=oX s ((br s).take q)) (λ⟨q,y⟩=>[(0,(.pointer (some ⟨r,0,none⟩))),(1,(.iface V.T V.ov)),(4,ud),(9,(.pointer (some ⟨b9,0,none⟩))),(49,ud),(50,(.int .i64 ((((br s).length:Nat):Int)))),(51,(.int .i64 (((q:Nat):Int))))]) (λ⟨q,y⟩=>[ak b9 (ints y.flat) 60,own ud ((br s).length) (ints (br s)) 3 1,cA V r s]) (λ⟨q,y⟩=>(br s).length-q) (0,s.own)
     ⟨aR _,rfl⟩ SB
     (λ_ s=>aj [0,0,0] rfl s) (λ⟨q,y⟩ hinv=>?_)
 obtain⟨hq,hy⟩:=hinv;refine sr λ_ J27=>PS ?_
 refine ao ?_ ?_<;>intro h52;refine nx J27 (aa λ_ J28=>CY (qx J28 (aa λ_ J29=>aq (sr λ_ J30=>?_))));have hmm2:(br s).getD q 0∈br s:=by rw[List.getD_eq_getElem?_getD,List.getElem?_eq_getElem (by omega)];exact cL _
 have hm2:cD ((br s).getD q 0)=true:=(vF hmm2).1;have hn2:0≤(br s).getD q 0∧(br s).getD q 0<5:=of_decide_eq_true hm2;refine gG 1 rfl rfl (by omega) (λge1 ce1 he1 _=>tp (a8 (r:=q) he1 rfl jI aM rfl rfl (by omega) (by omega) (by omega)) ?_);refine tp (bT (v:=(.int .i64 (((br s).getD q 0)))) rfl Y3 rfl rfl (eM 1 rfl he1 rfl) (vu (by omega))) ?_;refine PS ?_;refine nx J30 (aa λ_ J31=>sr λ_ J32=>PS ?_);refine FA 29 dP fE ?_;refine IX (29+(((br s).getD q 0)).toNat) lR aM ?_;refine LT 0 Y3 (.int .i64 ((y.heir[(((br s).getD q 0)).toNat]'(by omega)))) ?_ (hc:=by exact qw y ((((br s).getD q 0)).toNat) (by omega) (by omega) (jJ y.heir (by omega)));refine PS ?_;refine ao ?_ ?_<;>intro h59;refine nx J32 (CY (bg (aF (bD (ac J29 (ae (AD ?_)))))));refine PS ?_;refine au ?_
 exact aL ((q+1,y):(Nat)×(RowT)) ⟨by omega,by rw[s8 s (by omega),←hy,if_pos (by rw[fu,dif_pos hm2];exact h59)]⟩ (by show(br s).length- (q+1)< (br s).length-q;omega)
   SB
   (λ_ s=>aj [0,0,0] rfl s)
 refine nx J32 (CN (qx J31 (aa λ_ J33=>eH (α:=(Nat)) (λ_=>True) (λb12=>[(0,(.pointer (some ⟨r,0,none⟩))),(1,(.iface V.T V.ov)),(4,ud),(9,(.pointer (some ⟨b9,0,none⟩))),(12,(.pointer (some ⟨b12,0,none⟩))),(13,(.int .i64 ((dD y ((br s).getD q 0) (s.last[(((br s).getD q 0)).toNat]'(by omega))).2))),(49,ud),(50,(.int .i64 ((((br s).length:Nat):Int)))),(51,(.int .i64 (((q:Nat):Int))))]) (λb12=>[ak b12 (ints ((dD y ((br s).getD q 0) (s.last[(((br s).getD q 0)).toNat]'(by omega))).1).flat) 60,ak b9 (ints y.flat) 60,own ud ((br s).length) (ints (br s)) 3 1,cA V r s]) (λb12 _=>?_) (λtl33=>?_))));refine ac J33 (aa λ_ J34=>sr λ_ J35=>P2 ?_);refine ao ?_ ?_<;>intro h73
 · exact absurd (I1 hm2 (by rw[fu,dif_pos hm2];exact h59)) h73
 refine nx J35 (CN (qx J34 (ae (LW 0 dP aZ ah ?_))));refine SW 1 aZ ah ?_;refine au (ag (ac J29 (ae (AD ?_))));refine PS ?_;refine au ?_
 exact aL ((q+1,(dD y ((br s).getD q 0) (s.last[(((br s).getD q 0)).toNat]'(by omega))).1):(Nat)×(RowT)) ⟨by omega,by rw[s8 s (by omega),←hy,if_neg (by rw[fu,dif_pos hm2];exact h59),mM,dif_pos hm2]⟩ (by show(br s).length- (q+1)< (br s).length-q;omega)
   SB
   (λ_ s=>aj [1,1,1] rfl s)
 refine DC bc (BL 0) (cK 2 rfl rfl) ?_;refine LY 0 dP aZ ah ?_;refine PD 1 ?_;refine PD 2 ?_;refine PD 3 ?_;refine PD 4 ?_;refine FD 5 1948 bh sd ?_;refine IY 6 (1948+((((br s).getD q 0)).toNat)*174) E8 aZ ?_;refine ta 7 rfl (fz (vs:=ints (s.last[(((br s).getD q 0)).toNat]'(by omega)).flat) rfl dP rfl aZ rfl (λ_ h=>h.2.2.1) (ah (s.last[(((br s).getD q 0)).toNat]'(by omega))) (λa_=>(RepT.sub_last (s.rep a_) (((((br s).getD q 0)).toNat)*174) (by omega) (by omega) (jT dh ((s.rep a_).last) (i:=(((br s).getD q 0)).toNat) 0 (by omega) (by omega) (by decide) (bj (ah (((s.rep a_).last)[(((br s).getD q 0)).toNat]'(by omega)))))))) ?_;refine cE [8,12] (by kernel_rfl) rfl (aE rfl ?_ ?_);refine CE Ib (n4 y ((br s).getD q 0) (s.last[(((br s).getD q 0)).toNat]'(by omega))) ID ?_;refine EN (PD 9 ?_);refine PD 10 ?_;refine PD 11 ?_;refine AL 12 ?_;refine XZ tS (ints RowT.zero.flat) λb12=>?_
 refine EN (AL 13 ?_);refine SW 0 aZ ah ?_;refine EN (PD 14 ?_);refine DN ?_
 exact aD
   SB
   (λ_ s=>s)
   (tl33 ((b12):(Nat)) trivial)
 refine aE rfl ?_ ?_;refine XZ tS (ints RowT.zero.flat) λb12=>?_
 refine EN (AL 8 ?_);refine CE Ib (n4 y ((br s).getD q 0) (s.last[(((br s).getD q 0)).toNat]'(by omega))) ID ?_;refine EN (PD 9 ?_);refine PD 10 ?_;refine PD 11 ?_;refine AL 13 ?_;refine SW 0 aZ ah ?_;refine EN (PD 14 ?_);refine DN ?_
 exact aD
   SB
   (λ_ s=>s)
   (tl33 ((b12):(Nat)) trivial)
 exact bA;refine nx J27 (aa λ_ J36=>CN (bg (aF (aF (bD (ac J25 (ae ?_)))))));have hoy:OkRow y:=by rw[hy];exact inferInstance
 refine P2 ?_;refine LW 0 dP aZ ah ?_;refine CE IM (qj V r s y 0) (SM [2]) ?_;refine au (WK [0] (bu rfl ?_));obtain rfl:k=(br s).length:=by omega
 obtain rfl:q=(br s).length:=by omega
 have hb:tJ s=true:=List.all_eq_true.2 λi hi=>List.all_eq_true.2 λw hw=>by
   obtain⟨j,hj,rfl⟩:=eW hi;have h2:=hal j (by omega) w;rw[List.getD_eq_getElem?_getD,List.getElem?_eq_getElem hj]at h2;exact h2 hw
 rw[dL]at hy;subst hy;exact MQ (by rw[mg,if_neg (by rw[h19,decide_eq_false (by omega)];decide),if_pos hb])
end Go.Proofs.YtjblgopghhgflaaGreat
end
