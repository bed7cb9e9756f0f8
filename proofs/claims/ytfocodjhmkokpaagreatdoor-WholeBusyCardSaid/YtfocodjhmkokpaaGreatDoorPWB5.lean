/-
  Joined texts:what a statement's proof reaches.
-/
import Derived.Conc.LoneCalls
import Derived.Conc.LoneSelectN
import Derived.Test.YtfocodjhmkokpaaGreatDoorPWB4
set_option maxHeartbeats 8000000
set_option maxRecDepth 100000
set_option linter.unusedSimpArgs false
set_option linter.unusedVariables false
section
namespace Leg
open Go Codec Api
def WX(P:Program)(ops:Array Oper)(Q:QQ)(is:List Nat)(a:Act)(w:World):Prop:=
 ∀(b:Frame) (k:List Item) (cs:List Frame),∃e a' w',Q e a' w'∧Arrives P (lone (b.at a (.inRegion ops is::k)) cs w) b k cs e a' w'
theorem WX.nil{P:Program}{ops:Array Oper}{Q:QQ}{a:Act}{w:World}(h:Q .normal a w):WX P ops Q [] a w:=
 λ_ _ _=>⟨.normal,a,w,h, .one step_region_end⟩
theorem WX.region{P:Program}{id:Nat}{ops:Array Oper}{Q:QQ}{a:Act}{w:World}(h:WX P ops Q (List.range ops.size) a w):(Code.region id ops false).wp P Q a w:=
 λb k cs=>let ⟨e,a',w',q,r⟩:=h b k cs;⟨e,a',w',q, .of_steps (.one step_region) r⟩
section
variable {P:Program} {ops:Array Oper} {Q:QQ} {is:List Nat} {a:Act} {w:World} {i:Nat} {o:Oper}
theorem Fa(b:Frame)(k:List Item)(ho:ops[i]?=some o)(a:Act)(v:Value):(b.at a (.inRegion ops (i::is)::k)).finish v=b.at (a.put o.dst v) (.inRegion ops is::k):=by rw[Frame.finish_at,ho];rfl
theorem WX.value{v:Value}{w1:World}(ho:ops[i]?=some o)(hw:Region.wanted o (yielded ops a.tmps)=true)(hr:(execOp a.eval o).run P w= .ok (.value v) w1)(h:WX P ops Q is (a.put o.dst v) w1):WX P ops Q (i::is) a w:=λb k cs=>by
 obtain⟨e,a',w',q,r⟩:=h b k cs;refine⟨e,a',w',q, .of_steps (.one (step_lone_go ?_)) r⟩;rw[stepG_op ho hw,←Fa b k ho];simp[stepG.apply,hr]
theorem WX.comm{v:Value}{w1 w2:World}{cases:Array CommCase}{blocking:Bool}{shape:CommShape}(ho:ops[i]?=some o)(hw:Region.wanted o (yielded ops a.tmps)=true)(hr:(execOp a.eval o).run P w= .ok (.comm cases blocking shape) w1)
 (hs: ∀fr cs es,stepG P true (Conc.G fr cs) w= .comm (Conc.G fr cs) cases blocking shape w1 es→step P (Conc.solo (Conc.G fr cs) w)= .next (Conc.solo (Conc.G (fr.finish v) cs) w2)) (h:WX P ops Q is (a.put o.dst v) w2):WX P ops Q (i::is) a w:=λb k cs=>by
 obtain⟨e,a',w',q,r⟩:=h b k cs;have h1:=stepG_op (P:=P) (b:=b) (k:=k) (cs:=cs) (w:=w) (rest:=is) ho hw
 have h2: ∃es,stepG P true (Conc.G (b.at a (.inRegion ops (i::is)::k)) cs) w= .comm (Conc.G (b.at a (.inRegion ops (i::is)::k)) cs) cases blocking shape w1 es:=by
  unfold Conc.G;rw[h1];simp only[stepG.apply,Sem.runT_eq,hr];exact⟨_,rfl⟩
 obtain⟨es,h2⟩:=h2;have h3:=hs _ _ _ h2;rw[Fa b k ho]at h3;exact⟨e,a',w',q, .of_steps (.one h3) r⟩
abbrev LJ:= @WX.comm
end
end Leg
namespace Leg
open Go Codec Api
section
variable (P:Program) (w0:World) (F:Hl) (n:Nat)
def TX(ops:Array Oper)(Q:QQ)(is:List Nat)(D:List Deferred)(L:List (Nat×Value))(H:List HP):Prop:=∀a w,Fr n D L a→Same w0 w→Sat H F w→WX P ops Q is a w
end
section
variable {P:Program} {w0:World} {F:Hl} {n:Nat} {ops:Array Oper} {Q:QQ} {is:List Nat} {D:List Deferred} {L:List (Nat×Value)} {H:List HP} {i d:Nat} {o:Oper}
theorem TC.regionX{id:Nat}{l:List Oper}(h:TX P w0 F n l.toArray Q (List.range l.length) D L H):TC P w0 F n (.region id l.toArray false) Q D L H:=
 λa w f s m=>WX.region (by simpa using h a w f s m)
abbrev xN:= @TC.regionX
theorem TX.nil(h:TE w0 F n Q .normal D L H):TX P w0 F n ops Q [] D L H:=λa w f s m=>WX.nil (h a w f s m)
abbrev JX:= @TX.nil
theorem TX.v{v:Value}(ho:ops[i]?=some o)(hw:Want n D ops o L)(hd:o.dst=some d)(hn:Nat.blt d n=true)(h1:PV P n D L (Sat H F) o v)(h:TX P w0 F n ops Q is D ((d,v)::L) H):TX P w0 F n ops Q (i::is) D L H:=λa w f s m=>by
 refine WX.value ho (hw a f) (h1 a w f m) ?_;rw[hd];exact h _ _ (f.put (lb hn) _) s m
abbrev sE:= @TX.v
end
end Leg
namespace Leg
open Go Codec Api Go.Conc
section
variable {P:Program} {w0:World} {F:Hl} {n:Nat} {ops:Array Oper} {Q:QQ} {is:List Nat} {D:List Deferred} {L:List (Nat×Value)} {H:List HP} {i d:Nat} {o:Oper}
theorem Sat.chan{w:World}{c cap s r:Nat}{vs:List Value}(m:Sat H F w)(k:Nat)(hk:Nat.blt k H.length=true)(e:H.getD k (λ_=>True)=dR c cap vs s r):w.heap[c]?=some (.chan cap vs.toArray false s r false):=by
 obtain⟨h,d,e',x⟩:=m;obtain⟨h1,h2,d',rfl,a,_⟩:=dV k (lb hk) x;rw[e]at a
 have:hp w c=some (.chan cap vs.toArray false s r false):=by
  rw[e',iO];exact gi (by rw[show h1=sg c _ from a];simp[sg])
 exact this
theorem Sat.setChan{w:World}{c cap s r s' r':Nat}{vs vs':List Value}(m:Sat H F w)(k:Nat)(hk:Nat.blt k H.length=true)(e:H.getD k (λ_=>True)=dR c cap vs s r):Sat (H.set k (dR c cap vs' s' r')) F (w.setChan c cap vs'.toArray false s' r' false):=by
 have hc:=m.chan k hk e
 have hlt:c<w.heap.size:=by
  by_cases q:c<w.heap.size
  · exact q
  · rw[Array.getElem?_eq_none (by omega)]at hc;cases hc
 exact m.write k (lb hk) e (heap_setChan w c cap vs'.toArray false s' r' false hlt) (λj hj=>by simp[World.setChan,Array.getElem?_setIfInBounds,Ne.symm hj])
theorem Same.setChan{w w':World}(s:Same w w')(c cap:Nat)(b:Array Value)(cl:Bool)(x y:Nat)(t:Bool):Same w (w'.setChan c cap b cl x y t):=s.trans ⟨rfl,rfl,rfl,by simp[World.setChan]⟩
theorem rK{x:Operand}{so:Option Operand}{e:TypeId}{z:Value}{blocking:Bool}(ho:o.op= .select #[⟨x,so,e⟩] blocking)(hz:(P.info? e).map (·.zero)=some (some z))(ev:Operand→Value)(w:World):
 (execOp ev o).run P w= .ok (.comm #[{chan:=ev x,send:=so.map ev,zero:=z}] blocking .select) w:=by
 simp[execOp,ho,Sem.run_bind,nw hz]
theorem TX.sendRoom{x y:Operand}{e c cap s r:Nat}{z v:Value}{vs:List Value}(k:Nat)(ho:ops[i]?=some o)(hw:Want n D ops o L)(hop:o.op= .select #[⟨x,some y,e⟩] false)(hd:o.dst=some d)(hn:Nat.blt d n=true)(hz:(P.info? e).map (·.zero)=some (some z))
 (hx:cE L x=some (.chan (some c))) (hy:cE L y=some v) (hk:Nat.blt k H.length=true) (hH:H.getD k (λ_=>True)=dR c cap vs s r) (hroom:vs.length<cap)
 (h:TX P w0 F n ops Q is D ((d, .tuple #[.int .i64 0, .bool false])::L) (H.set k (dR c cap (vs++[v]) (s+1) r))):TX P w0 F n ops Q (i::is) D L H:=λa w f sm m=>by
 have hc:=m.chan k hk hH;have hr:=rK (P:=P) hop hz a.eval w;rw[f.eval hx]at hr;simp only[Option.map_some,f.eval hy]at hr;refine LJ (v:= .tuple #[.int .i64 0, .bool false]) (w2:=w.setChan c cap (vs++[v]).toArray false (s+1) r false) ho (hw a f) hr (λfr cs es hs=>?_) ?_
 · have:=step_lone_sel_send_room (k:=0) hs rfl (λj c' hj hjc=>by cases j with|zero=>exact absurd rfl hj|succ j=>simp at hjc) hc (by simpa using hroom)
   rw[this];simp[commResult,goInt]
 · rw[hd]
   exact h _ _ (f.put (lb hn) _) (sm.setChan ..) (m.setChan k hk hH)
theorem TX.sendFull{x y:Operand}{e c cap s r:Nat}{z v:Value}{vs:List Value}(k:Nat)(ho:ops[i]?=some o)(hw:Want n D ops o L)(hop:o.op= .select #[⟨x,some y,e⟩] false)(hd:o.dst=some d)(hn:Nat.blt d n=true)(hz:(P.info? e).map (·.zero)=some (some z))
 (hx:cE L x=some (.chan (some c))) (hy:cE L y=some v) (hk:Nat.blt k H.length=true) (hH:H.getD k (λ_=>True)=dR c cap vs s r) (hfull:cap≤vs.length)
 (h:TX P w0 F n ops Q is D ((d, .tuple #[.int .i64 (-1), .bool false])::L) H):TX P w0 F n ops Q (i::is) D L H:=λa w f sm m=>by
 have hc:=m.chan k hk hH;have hr:=rK (P:=P) hop hz a.eval w;rw[f.eval hx]at hr;simp only[Option.map_some,f.eval hy]at hr;refine LJ (v:= .tuple #[.int .i64 (-1), .bool false]) (w2:=w) ho (hw a f) hr (λfr cs es hs=>?_) ?_
 · have:=step_lone_sel_default hs (λcc hcc=>by
    obtain rfl:cc=scase c v z:=by simpa [scase]using hcc
    exact noWay_send hc (by simpa using hfull))
   rw[this];simp[commResult,goInt]
 · rw[hd]
   exact h _ _ (f.put (lb hn) _) sm m
theorem TX.recvBuf{x:Operand}{e c cap s r:Nat}{z v:Value}{vs:List Value}(k:Nat)(ho:ops[i]?=some o)(hw:Want n D ops o L)(hop:o.op= .select #[⟨x,none,e⟩] false)(hd:o.dst=some d)(hn:Nat.blt d n=true)(hz:(P.info? e).map (·.zero)=some (some z))
 (hx:cE L x=some (.chan (some c))) (hk:Nat.blt k H.length=true) (hH:H.getD k (λ_=>True)=dR c cap (v::vs) s r)
 (h:TX P w0 F n ops Q is D ((d, .tuple #[.int .i64 0, .bool true,v])::L) (H.set k (dR c cap vs s (r+1)))):TX P w0 F n ops Q (i::is) D L H:=λa w f sm m=>by
 have hc:=m.chan k hk hH;have hr:=rK (P:=P) hop hz a.eval w;rw[f.eval hx]at hr;simp only[Option.map_none]at hr;refine LJ (v:= .tuple #[.int .i64 0, .bool true,v]) (w2:=w.setChan c cap vs.toArray false s (r+1) false) ho (hw a f) hr (λfr cs es hs=>?_) ?_
 · have:=step_lone_sel_recv_buf (k:=0) hs rfl (λj c' hj hjc=>by cases j with|zero=>exact absurd rfl hj|succ j=>simp at hjc) hc (by simp)
   rw[this];simp[commResult,goInt]
 · rw[hd]
   exact h _ _ (f.put (lb hn) _) (sm.setChan ..) (m.setChan k hk hH)
theorem TX.recvNone{x:Operand}{e c cap s r:Nat}{z:Value}(k:Nat)(ho:ops[i]?=some o)(hw:Want n D ops o L)(hop:o.op= .select #[⟨x,none,e⟩] false)(hd:o.dst=some d)(hn:Nat.blt d n=true)(hz:(P.info? e).map (·.zero)=some (some z))
 (hx:cE L x=some (.chan (some c))) (hk:Nat.blt k H.length=true) (hH:H.getD k (λ_=>True)=dR c cap [] s r)
 (h:TX P w0 F n ops Q is D ((d, .tuple #[.int .i64 (-1), .bool false,z])::L) H):TX P w0 F n ops Q (i::is) D L H:=λa w f sm m=>by
 have hc:=m.chan k hk hH;have hr:=rK (P:=P) hop hz a.eval w;rw[f.eval hx]at hr;simp only[Option.map_none]at hr;refine LJ (v:= .tuple #[.int .i64 (-1), .bool false,z]) (w2:=w) ho (hw a f) hr (λfr cs es hs=>?_) ?_
 · have:=step_lone_sel_default hs (λcc hcc=>by
    obtain rfl:cc=rcase c z:=by simpa [rcase]using hcc
    exact noWay_recv hc)
   rw[this];simp[commResult,goInt]
 · rw[hd]
   exact h _ _ (f.put (lb hn) _) sm m
end
end Leg
namespace Leg
open Go Codec Api Go.Conc
section
variable {P:Program} {w0:World} {F:Hl} {n:Nat} {ops:Array Oper} {Q:QQ} {D:List Deferred} {L:List (Nat×Value)} {H:List HP} {d:Nat} {o:Oper}
theorem PV.lenChan{t e:TypeId}{dir:ChanDir}{x:Operand}{c cap s r:Nat}{vs:List Value}(k:Nat)(ho:o.op= .call {callee:= .builtin .len,args:=#[x],argTypes:=#[t]})(ht:P.underlying t=some (.chan dir e))(hx:cE L x=some (.chan (some c)))
 (hk:Nat.blt k H.length=true) (hH:H.getD k (λ_=>True)=dR c cap vs s r):PV P n D L (Sat H F) o (.int .i64 ((vs.length:Nat):Int)):=λa w f m=>by
 have hl:=Conc.run_len_chan (P:=P) (w:=w) (dir:=dir) (e:=e) t o.type ht (m.chan k hk hH);simp[execOp,ho,resolve,f.eval hx,invoke,builtin,hl,goInt]
theorem PV.capChan{t e:TypeId}{dir:ChanDir}{x:Operand}{c cap s r:Nat}{vs:List Value}(k:Nat)(ho:o.op= .call {callee:= .builtin .cap,args:=#[x],argTypes:=#[t]})(ht:P.underlying t=some (.chan dir e))(hx:cE L x=some (.chan (some c)))
 (hk:Nat.blt k H.length=true) (hH:H.getD k (λ_=>True)=dR c cap vs s r):PV P n D L (Sat H F) o (.int .i64 ((cap:Nat):Int)):=λa w f m=>by
 have hl:=Conc.run_cap_chan (P:=P) (w:=w) (dir:=dir) (e:=e) t o.type ht (m.chan k hk hH);simp[execOp,ho,resolve,f.eval hx,invoke,builtin,hl,goInt]
end
abbrev gE(T U b:Nat)(ls:List (List UInt8)):HP:=pack (λq:Nat×List Value×Nat×Nat=>[aj b [.chan (some q.1)] T,dR q.1 8 q.2.1 q.2.2.1 q.2.2.2,ei q.2.1 ls U])
def qq(T U:Nat)(bs:List Nat)(W:List (List (List UInt8)))(k:Nat):HP:=if k%6=0 then(λ_=>True)else gE T U (bs.getD k 0) (W.getD k [])
def oN(T U:Nat)(bs:List Nat)(W:List (List (List UInt8))):List HP:=(List.range 25).map (qq T U bs W)
def ey(T U:Nat)(bs:List Nat)(W:List (List (List UInt8))):HP:=bK (oN T U bs W)
def fo(T U:Nat)(bs:List Nat)(W:List (List (List UInt8)))(k:Nat):HP:=bK ((oN T U bs W).eraseIdx k)
def dp(bs:List Nat):List Value:=(List.range 25).map λk=>if k%6=0 then .pointer none else .pointer (some ⟨bs.getD k 0,0,none⟩)
theorem Bj(bs:List Nat){k:Nat}(h:k<25):(dp bs)[k]?=some (if k%6=0 then .pointer none else .pointer (some ⟨bs.getD k 0,0,none⟩)):=by unfold dp;simp[h]
theorem yu(bs:List Nat):(dp bs).length=25:=by simp[dp]
abbrev eg(NT T U n:Nat)(W:List (List (List UInt8))):HP:=pack (λbs:List Nat=>[aj n (dp bs) NT,ey T U bs W])
section
variable {T U:Nat} {bs:List Nat} {W:List (List (List UInt8))} {k:Nat} {H:List HP} {h:Hl}
theorem Cl:(oN T U bs W).length=25:=by simp[oN]
theorem wV(hk:k<25)(s:bK (ey T U bs W::H) h):bK (qq T U bs W k::fo T U bs W k::H) h:=by
 have s1:bK (oN T U bs W++H) h:=(bY _ _).2 s;have e:(oN T U bs W).getD k (λ_=>True)=qq T U bs W k:=by simp[oN,List.getD_eq_getElem?_getD,hk]
 have p:=mD (λ_=>True) (oN T U bs W) k (by rw[Cl];exact hk);rw[e]at p;have s2:=dY (p.append_right H) s1;exact cD s2 (λ_ a=>a) λ_ b=>(bY _ _).1 b
theorem uk{W':List (List (List UInt8))}(hk:k<25)(hW: ∀j,j≠k→W'.getD j []=W.getD j [])(s:bK (qq T U bs W' k::fo T U bs W k::H) h):bK (ey T U bs W'::H) h:=by
 have e0:(oN T U bs W').eraseIdx k=(oN T U bs W).eraseIdx k:=by
  refine List.ext_getElem? λj=>?_
  rw[List.getElem?_eraseIdx,List.getElem?_eraseIdx]
  have: ∀i,i≠k→(oN T U bs W')[i]?=(oN T U bs W)[i]?:=λi hi=>by
   simp only[oN,List.getElem?_map];cases q:(List.range 25)[i]?with
   |none=>rfl
   |some m=>
    have hm:m=i:=by
     by_cases hi25:i<25
     · simp[hi25]at q;exact q.symm
     · simp[hi25]at q
    subst hm;simp only[Option.map_some,qq,hW m hi]
  split
  · exact this j (by omega)
  · exact this (j+1) (by omega)
 have e:(oN T U bs W').getD k (λ_=>True)=qq T U bs W' k:=by simp[oN,List.getD_eq_getElem?_getD,hk]
 have p:=mD (λ_=>True) (oN T U bs W') k (by rw[Cl];exact hk);rw[e,e0]at p;have s2:bK ((qq T U bs W' k::(oN T U bs W).eraseIdx k)++H) h:=cD s (λ_ a=>a) λ_ b=>(bY _ _).2 b
 exact(bY _ _).1 (dY (p.symm.append_right H) s2)
end
def bD(from' to':Int):Nat:=from'.toNat*5+to'.toNat
def iy(w:Int):Bool:=decide (0≤w∧w<5)
theorem I5{f t:Int}(hf:iy f=true)(ht:iy t=true):bD f t<25:=by
 have h1:0≤f∧f<5:=of_decide_eq_true hf;have h2:0≤t∧t<5:=of_decide_eq_true ht;unfold bD;omega
theorem sM{f t:Int}(hf:iy f=true)(ht:iy t=true):bD f t%6=0↔f=t:=by
 have h1:0≤f∧f<5:=of_decide_eq_true hf;have h2:0≤t∧t<5:=of_decide_eq_true ht;unfold bD;omega
end Leg
end

section
namespace Wal
open Go Leg Codec Api Dsk
end Wal
namespace Leg
open Go Codec Api
end Leg
namespace Leg
open Go Codec Api
theorem p6{us:List Value}{ls:List (List UInt8)}{e:Nat}{H:List HP}{F:Hl}{w:World}(i:Nat)(hi:Nat.blt i H.length=true)(hH:H.getD i (λ_=>True)=ei us ls e)(m:Sat H F w):us.length=ls.length∧∀u∈us,u.oneCell'=true:=by
 obtain⟨h,d,e',x⟩:=m;obtain⟨h1,h2,d',rfl,a,_⟩:=dV i (lb hi) x;rw[hH]at a;refine⟨a.1,λu hu=>?_⟩;obtain⟨j,hj,rfl⟩:=fV hu;obtain⟨u,e1,k1,k2,dk,rfl,a3⟩:=wU us ls e _ a.1 a.2 j (by rw[←a.1];exact hj);rw[List.getElem?_eq_getElem hj]at e1;injection e1 with e1
 rw[e1];exact(AM a3 (λb o q=>q):IsB u _ k1).one
section
variable {P:Program} {n:Nat} {D:List Deferred} {L:List (Nat×Value)} {S:World→Prop} {o:Oper}
end
end Leg
namespace Wal
open Go Leg Codec Api Dsk
end Wal
namespace Leg
open Go Codec Api
section
variable {P:Program} {n:Nat} {D:List Deferred} {L:List (Nat×Value)} {S:World→Prop} {o:Oper}
end
theorem GN{us:List Value}{ls:List (List UInt8)}{e:Nat}{u:Value}{l:List UInt8}{H:List HP}{h:Hl}(s:bK (ei (u::us) (l::ls) e::H) h):bK (gz u l e::ei us ls e::H) h:=by
 obtain⟨h1,h2,d,rfl,⟨hl,a⟩,b⟩:=s;obtain⟨g1,g2,d',rfl,a1,a2⟩:=a;exact mz.1 ⟨_,h2,d,rfl,⟨g1,g2,d',rfl,a1,⟨by simpa using hl,a2⟩⟩,b⟩
def zC(ls:List (List UInt8))(bs:List UInt8):List (List UInt8):=if ls.length<8 then ls++[bs]else ls
def dz(f t:Int):Bool:=iy f&&iy t&& !decide (f=t)
def od(W:List (List (List UInt8)))(f t:Int)(bs:List UInt8):List (List (List UInt8)):=if dz f t then W.set (bD f t) (zC (W.getD (bD f t) []) bs)else W
theorem ic{f t:Int}(h:dz f t=true):bD f t<25∧¬bD f t%6=0:=by
 unfold dz at h;rw[au,au]at h;refine⟨I5 h.1.1 h.1.2,λq=>?_⟩;have:=(sM h.1.1 h.1.2).1 q;rw[this]at h;simp at h
theorem p7{T U:Nat}{bs:List Nat}{W:List (List (List UInt8))}{k:Nat}(h: ¬k%6=0):qq T U bs W k=gE T U (bs.getD k 0) (W.getD k []):=by unfold qq;rw[if_neg h]
theorem np{T U:Nat}{bs:List Nat}{W:List (List (List UInt8))}{f t:Int}(hv:dz f t=true){H:List HP}{h:Hl}(s:bK (ey T U bs W::H) h):bK (gE T U (bs.getD (bD f t) 0) (W.getD (bD f t) [])::fo T U bs W (bD f t)::H) h:=by
 obtain⟨h1,h2⟩:=ic hv;have:=wV h1 s
 rwa [p7 h2]at this
theorem sL{T U:Nat}{bs:List Nat}{W:List (List (List UInt8))}{f t:Int}{ls:List (List UInt8)}(hv:dz f t=true)(hW:W.length=25){H:List HP}{h:Hl}(s:bK (gE T U (bs.getD (bD f t) 0) ls::fo T U bs W (bD f t)::H) h):bK (ey T U bs (W.set (bD f t) ls)::H) h:=by
 obtain⟨h1,h2⟩:=ic hv;refine uk (W:=W) h1 (λj hj=>?_) ?_
 · rw[List.getD_eq_getElem?_getD,List.getD_eq_getElem?_getD,List.getElem?_set_ne (λe=>hj e.symm)]
 · rw[p7 h2,show(W.set (bD f t) ls).getD (bD f t) []=ls by rw[List.getD_eq_getElem?_getD,List.getElem?_set_self (by omega)];rfl]
   exact s
end Leg
namespace Leg
open Go Codec Api
def b8(w:Int):UInt8:=Wal.r8 w
theorem uS(w:Int):IntKind.u8.wrap w=(((b8 w).toNat:Nat):Int):=Wal.r8_wrap w
end Leg
end

section
namespace Go.Proofs.YtfocodjhmkokpaaGreatDoor
open Go Leg Codec Api Dsk Wal
theorem sC(b c s r:Nat)(us:List Value)(ls:List (List UInt8)):
 DT 77 #[(.pointer (some ⟨b,0,none⟩))] T0 [aj b [(.chan (some c))] 184,dR c 8 (us) (s) (r),ei (us) (ls) 5] (RI (.int .i64 ((ls.length:Nat):Int)) [aj b [(.chan (some c))] 184,dR c 8 (us) (s) (r),ei (us) (ls) 5]):=by
 refine BD 8 Tryz.func77 rfl rfl rfl λw0 F hF=>sr λ_ J1=>PS ?_
 refine nx J1 (sr λ_ J2=>xM (p:=us.length=ls.length) (λw m=>(p6 2 rfl rfl m).1) (λhul=>P2 ?_));refine FA 0 Cm tB ?_;refine LA 0 uE ?_;refine tp (PV.lenChan 1 rfl uE rfl rfl rfl) ?_;refine PS ?_;refine nx J2 (ah (WK [0,0,0] (av rfl rfl ?_)));exact⟨by rw[hul],rfl⟩
theorem iU(b:Nat)(ls:List (List UInt8)):DT 77 #[.pointer (some ⟨b,0,none⟩)] T0 [gE 184 5 b ls] (RI (.int .i64 ((ls.length:Nat):Int)) [gE 184 5 b ls]):=
 Leg.Does.pack (B:=[]) λq=>Leg.Does.fold (sC b q.1 q.2.2.1 q.2.2.2 q.2.1 ls) λe H hp=>by
  cases e with
  |returned v=>
   obtain⟨rfl,rfl⟩:=hp;exact⟨_,λ_ s=>bo (p:=λq:Nat×List Value×Nat×Nat=>[aj b [.chan (some q.1)] 184,dR q.1 8 q.2.1 q.2.2.1 q.2.2.2,ei q.2.1 ls 5]) (H:=[]) q s,rfl,rfl⟩
  |panicked c=>exact hp.elim
  |outgrown=>exact hp.elim
theorem Ai(b c s r:Nat)(us:List Value)(ls:List (List UInt8))(x:Value)(bs:List UInt8)(hb:bs.length≤1000000):
 DT 116 #[(.pointer (some ⟨b,0,none⟩)),x] (IsW x bs) [aj b [(.chan (some c))] 184,dR c 8 (us) (s) (r),ei (us) (ls) 5] (c9 (λv H=>(ls.length<8∧v= .bool true∧∃u,H=[aj b [(.chan (some c))] 184,dR c 8 (us++[u]) (s+1) r,ei us ls 5,cu u bs 5])∨(¬ls.length<8∧v= .bool false∧H=[aj b [(.chan (some c))] 184,dR c 8 (us) (s) (r),ei (us) (ls) 5]))):=by
 refine Leg.Does.body (vs:=[(.pointer (some ⟨b,0,none⟩)),x]) (n:=15) Tryz.func116 rfl rfl rfl (λw0 F hF=>?_);refine sr λ_ J1=>?_
 refine lc ?_;refine nx J1 ?_;refine aa λ_ J2=>?_
 refine sr λ_ J3=>?_
 refine xM (p:=us.length=ls.length) (λw m=>(p6 2 rfl rfl m).1) (λhul=>?_);refine mv ?_;refine tp (eR rfl rfl) ?_;refine tp (aW (r:=0) rfl Cm rfl tB rfl rfl) ?_;refine tp (ek (v:=(.chan (some c))) rfl uE rfl rfl (du 0 rfl rfl) rfl) ?_;refine nx J3 ?_;refine ad ?_;refine Cp (ab rfl) rfl rfl rfl e8 js (λv9=>?_);change TL _ _ _ _ _ _ _ _ _ [cu v9 ([]) 5,aj b [(.chan (some c))] 184,dR c 8 (us) (s) (r),ei (us) (ls) 5];refine mv ?_;refine bO (k:=0) (news:=dw (bs)) (nn':=(bs:List UInt8).length) (xs':=dw (bs)) (ab rfl) rfl rfl rfl e8 sH rfl rfl rfl rfl rfl rfl (λ_ _=>hF.src (λ_ h=>dG h)) (eB _) (by simp only[maxLen,az];omega) (by simp only[az];omega) (by simp) (ca _) (λv11 ov11=>?_);change TL _ _ _ _ _ _ _ _ _ [cu v11 (bs) 5,aj b [(.chan (some c))] 184,dR c 8 (us) (s) (r),ei (us) (ls) 5];refine nx J2 ?_;refine aa λ_ J4=>?_
 refine xN ?_;change TX _ _ _ _ _ _ [0,1,2] _ _ _
 by_cases hroom:us.length<8
 refine TX.sendRoom 2 rfl (ab rfl) rfl rfl rfl LF rfl rfl rfl rfl hroom ?_;change TX _ _ _ _ _ _ _ _ _ [cu v11 (bs) 5,aj b [(.chan (some c))] 184,dR c 8 (us++[v11]) (s+1) (r),ei (us) (ls) 5];refine sE rfl (ab rfl) rfl rfl (eF (vs:=[(.int .i64 0),(.bool false)]) rfl rfl rfl) ?_;refine sE rfl (ab rfl) rfl rfl (xV rfl rfl rfl) ?_;refine JX ?_;refine ac J4 ?_;refine am ?_;refine jD rfl ?_;refine sr λ_ J5=>?_
 refine lc ?_;refine nx J5 ?_;refine ah ?_;refine aH ?_;refine aF (cZ _) (λ_ s=>ak [1,1,1,0] rfl s) ?_;refine av rfl rfl ?_;exact Or.inl ⟨by omega,rfl,_,rfl⟩;refine TX.sendFull 2 rfl (ab rfl) rfl rfl rfl LF rfl rfl rfl rfl (by omega) ?_;refine sE rfl (ab rfl) rfl rfl (eF (vs:=[(.int .i64 (-1)),(.bool false)]) rfl rfl rfl) ?_;refine sE rfl (ab rfl) rfl rfl (xV rfl rfl rfl) ?_;refine JX ?_;refine ac J4 ?_;refine am ?_;refine nN rfl ?_;refine sr λ_ J6=>?_
 refine lc ?_;refine nx J6 ?_;refine ah ?_;refine aH ?_;refine aF (cZ _) (λ_ s=>ak [1,1,1] rfl s) ?_;refine av rfl rfl ?_;exact Or.inr ⟨by omega,rfl,rfl⟩
theorem um(b:Nat)(ls:List (List UInt8))(x:Value)(bs:List UInt8)(hb:bs.length≤1000000):DT 116 #[.pointer (some ⟨b,0,none⟩),x] (IsW x bs) [gE 184 5 b ls] (RI (.bool (decide (ls.length<8))) [gE 184 5 b (zC ls bs)]):=
 Leg.Does.pack (B:=[]) λq=>Leg.Does.fold (Ai b q.1 q.2.2.1 q.2.2.2 q.2.1 ls x bs hb) λe H hp=>by
  cases e with
  |returned v=>
   unfold zC;rcases hp with⟨h8,rfl,u,rfl⟩| ⟨h8,rfl,rfl⟩
   · refine⟨[gE 184 5 b (ls++[bs])],λ_ s=>?_,by rw[decide_eq_true h8],by rw[if_pos h8]⟩
     have s1:=zm 3 rfl rfl s;have s2:=aA [2,2] rfl s1;have s3:=tv s2;exact bo (p:=λq:Nat×List Value×Nat×Nat=>[aj b [.chan (some q.1)] 184,dR q.1 8 q.2.1 q.2.2.1 q.2.2.2,ei q.2.1 (ls++[bs]) 5]) (H:=[]) (q.1,q.2.1++[u],q.2.2.1+1,q.2.2.2) (aA [1,1,0] rfl s3)
   · exact⟨[gE 184 5 b ls],λ_ s=>bo (p:=λq:Nat×List Value×Nat×Nat=>[aj b [.chan (some q.1)] 184,dR q.1 8 q.2.1 q.2.2.1 q.2.2.2,ei q.2.1 ls 5]) (H:=[]) q s,by rw[decide_eq_false h8],by rw[if_neg h8]⟩
  |panicked c=>exact hp.elim
  |outgrown=>exact hp.elim
theorem xJ(b c s r:Nat)(us:List Value)(ls:List (List UInt8)):
 DT 117 #[(.pointer (some ⟨b,0,none⟩))] T0 [aj b [(.chan (some c))] 184,dR c 8 (us) (s) (r),ei (us) (ls) 5] (c9 (λv H=>(ls=[]∧v= .tuple #[.slice none 0 0, .bool false]∧H=[aj b [(.chan (some c))] 184,dR c 8 [] s r,ei [] ls 5])∨(∃u us' f ls',ls=f::ls'∧v= .tuple #[u, .bool true]∧H=[aj b [(.chan (some c))] 184,dR c 8 us' s (r+1),ei (u::us') (f::ls') 5]))):=by
 refine BD 14 Tryz.func117 rfl rfl rfl λw0 F hF=>sr λ_ J1=>P2 ?_
 refine nx J1 (sr λ_ J2=>xM (p:=us.length=ls.length) (λw m=>(p6 2 rfl rfl m).1) (λhul=>P2 ?_));refine FA 0 Cm tB ?_;refine LA 0 uE ?_;refine nx J2 (aa λ_ J3=>xN ?_);rcases us with _| ⟨u,us⟩
 refine TX.recvNone 1 rfl (ab rfl) rfl rfl rfl LF rfl rfl rfl (sE rfl (ab rfl) rfl rfl (eF (vs:=[(.int .i64 (-1)),(.bool false),(.slice none 0 0)]) rfl rfl rfl) (sE rfl (ab rfl) rfl rfl (xV rfl rfl rfl) (JX (ac J3 (am (CN (sr λ_ J4=>P2 ?_)))))));exact nx J4 (ah (aH (WK [0,0,0] (gJ rfl rfl rfl (Or.inl ⟨List.eq_nil_of_length_eq_zero hul.symm,rfl,rfl⟩)))));rcases ls with _| ⟨f,ls⟩
 · cases hul
 refine TX.recvBuf 1 rfl (ab rfl) rfl rfl rfl LF rfl rfl rfl (sE rfl (ab rfl) rfl rfl (eF (vs:=[(.int .i64 0),(.bool true),u]) rfl rfl rfl) (sE rfl (ab rfl) rfl rfl (xV rfl rfl rfl) (JX (ac J3 (am (CY (sr λ_ J5=>P2 ?_)))))));refine nx J5 (sr λ_ J6=>P3 ?_);exact nx J6 (ah (aH (WK [0,0,0] (gJ rfl rfl rfl (Or.inr ⟨u,us,f,ls,rfl,rfl,rfl⟩)))))
theorem sB(b:Nat)(ls:List (List UInt8)):DT 117 #[.pointer (some ⟨b,0,none⟩)] T0 [gE 184 5 b ls] (c9 (λv H=>(ls=[]∧v= .tuple #[.slice none 0 0, .bool false]∧H=[gE 184 5 b []])∨(∃u f ls',ls=f::ls'∧v= .tuple #[u, .bool true]∧H=[gE 184 5 b ls',gz u f 5]))):=
 Leg.Does.pack (B:=[]) λq=>Leg.Does.fold (xJ b q.1 q.2.2.1 q.2.2.2 q.2.1 ls) λe H hp=>by
  cases e with
  |returned v=>
   rcases hp with⟨rfl,rfl,rfl⟩| ⟨u,us',f,ls',rfl,rfl,rfl⟩
   · exact⟨[gE 184 5 b []],λ_ s=>bo (p:=λq:Nat×List Value×Nat×Nat=>[aj b [.chan (some q.1)] 184,dR q.1 8 q.2.1 q.2.2.1 q.2.2.2,ei q.2.1 [] 5]) (H:=[]) (q.1,[],q.2.2.1,q.2.2.2) s,Or.inl ⟨rfl,rfl,rfl⟩⟩
   · refine⟨[gE 184 5 b ls',gz u f 5],λ_ s=>?_,Or.inr ⟨u,f,ls',rfl,rfl,rfl⟩⟩
     have s1:=aA [2] rfl s;have s2:=GN s1;exact bo (p:=λq:Nat×List Value×Nat×Nat=>[aj b [.chan (some q.1)] 184,dR q.1 8 q.2.1 q.2.2.1 q.2.2.2,ei q.2.1 ls' 5]) (H:=[gz u f 5]) (q.1,us',q.2.2.1,q.2.2.2+1) (aA [2,2,1,0] rfl s2)
  |panicked c=>exact hp.elim
  |outgrown=>exact hp.elim
theorem Aj:
 DT 65 #[(.int .i64 8)] T0 [] (c9 (λv H=>∃b c,v= .pointer (some ⟨b,0,none⟩)∧H=[aj b [(.chan (some c))] 184,dR c 8 [] 0 0])):=by
 refine BD 9 Tryz.func65 rfl rfl rfl λw0 F hF=>sr λ_ J1=>PS ?_
 refine nx J1 (sr λ_ J2=>PS ?_);refine tp (kB (v':=(.int .i64 8)) (xT rfl rfl rfl) rfl) ?_;refine tp (kB (v':=(.int .i64 8)) (PV.minI rfl rfl rfl) rfl) ?_;refine TL.makeChan (k:=8) (bytes:=24) (ab rfl) rfl rfl rfl uE (by kernel_rfl) rfl (by omega) (by omega) (λc6=>BV #[(.chan (some c6))] ?_);refine XB λb8=>?_
 refine PS ?_;exact nx J2 (ah (WK [0,0] (av rfl rfl ⟨b8,c6,rfl,rfl⟩)))
theorem Ck:DT 65 #[.int .i64 8] T0 [] (c9 (λv H=>∃b,v= .pointer (some ⟨b,0,none⟩)∧H=[gE 184 5 b []])):=
 Leg.Does.fold Aj λe H hp=>by
  cases e with
  |returned v=>
   obtain⟨b,c,rfl,rfl⟩:=hp;exact⟨[gE 184 5 b []],λ_ s=>bo (p:=λq:Nat×List Value×Nat×Nat=>[aj b [.chan (some q.1)] 184,dR q.1 8 q.2.1 q.2.2.1 q.2.2.2,ei q.2.1 [] 5]) (H:=[]) (c,[],0,0) (aA [1,1,0] rfl (yU s)),b,rfl,rfl⟩
  |panicked c=>exact hp.elim
  |outgrown=>exact hp.elim
theorem oE(w:Int):
 DT 115 #[(.int .i64 (w))] T0 [] (RI (.bool (iy w)) []):=by
 refine BD 9 Tryz.func115 rfl rfl rfl λw0 F hF=>sr λ_ J1=>PS ?_
 refine nx J1 (sr λ_ J2=>P2 ?_);refine ao ?_ ?_<;>intro h4
 iterate 5 refine PS ?_
 refine nx J2 (ah (WK [] (av rfl rfl ?_)));exact⟨congrArg Value.bool (by unfold iy;simp only[decide_eq_decide];omega),rfl⟩;refine PS ?_;refine UF ?_;refine UF ?_;refine P2 ?_;refine nx J2 (ah (WK [] (av rfl rfl ?_)));exact⟨congrArg Value.bool (by unfold iy;symm;exact decide_eq_false (by omega)),rfl⟩
theorem mo(n:Nat)(bs:List Nat)(from' to':Int):
 DT 76 #[(.pointer (some ⟨n,0,none⟩)),(.int .i64 (from')),(.int .i64 (to'))] T0 [aj n (dp bs) 135] (c9 (λv H=>((dz from' to'=true∧v= .pointer (some ⟨(bs.getD (bD from' to') 0),0,none⟩))∨(dz from' to'=false∧v= .pointer none))∧H=[aj n (dp bs) 135])):=by
 refine BD 23 Tryz.func76 rfl rfl rfl λw0 F hF=>sr λ_ J1=>PS ?_
 refine nx J1 (aa λ_ J2=>sr λ_ J3=>PS ?_);refine CE Kq (oE from') ID ?_;refine bc ?_ ?_<;>intro h8;have hf:0≤from'∧from'<5:=of_decide_eq_true h8
 refine PS ?_;refine P2 ?_;refine CE Kq (oE to') ID ?_;refine bc ?_ ?_<;>intro h12;have ht:0≤to'∧to'<5:=of_decide_eq_true h12;refine PS ?_;refine PS ?_;refine nx J3 (CN (qx J2 (sr λ_ J4=>P4 ?_)));refine FA 0 Tryz.underlying135 Ev ?_;refine IX (((from').toNat)*5) JV AJ ?_;refine IX (((from').toNat)*5+(to').toNat) IL Ew ?_;refine LT 0 w8 (if bD from' to'%6=0 then .pointer none else .pointer (some ⟨(bs.getD (bD from' to') 0),0,none⟩)) ?_ (hc:=by exact Bj bs (k:=bD from' to') (by unfold bD;omega));refine PS ?_;refine nx J4 (ah (WK [0] (av rfl rfl ⟨?_,rfl⟩)))
 by_cases hd:from'=to'
 · rw[if_pos ((sM h8 h12).2 hd)]
   exact Or.inr ⟨by unfold dz;rw[decide_eq_true hd];simp,rfl⟩
 · rw[if_neg (λq=>hd ((sM h8 h12).1 q))]
   exact Or.inl ⟨by unfold dz;rw[h8,h12,decide_eq_false hd];rfl,rfl⟩
 refine PS ?_;refine PS ?_;refine nx J3 (CY (sr λ_ J5=>PS ?_));refine nx J5 (ah (ae (WK [0] (av rfl rfl ?_))));exact⟨Or.inr ⟨by unfold dz;rw[h12];simp,rfl⟩,rfl⟩;refine PS ?_;refine PS ?_
 iterate 3 refine UT ?_
 refine PS ?_;refine nx J3 (CY (sr λ_ J6=>PS ?_));refine nx J6 (ah (ae (WK [0] (av rfl rfl ?_))));exact⟨Or.inr ⟨by unfold dz;rw[h8];simp,rfl⟩,rfl⟩
def rY(W:List (List (List UInt8)))(f t:Int):Bool:=dz f t&&decide ((W.getD (bD f t) []).length<8)
theorem xx(n:Nat)(bs:List Nat)(W:List (List (List UInt8)))(from' to':Int)(x:Value)(by':List UInt8)(hb:by'.length≤1000000)(hW:W.length=25):
 DT 212 #[(.pointer (some ⟨n,0,none⟩)),(.int .i64 (from')),(.int .i64 (to')),x] (IsW x by') [aj n (dp bs) 135,ey 184 5 bs W] (RI (.bool (rY W from' to')) [aj n (dp bs) 135,ey 184 5 bs (od W from' to' by')]):=by
 refine BD 21 Tryz.func212 rfl rfl rfl λw0 F hF=>sr λ_ J1=>PS ?_
 refine nx J1 (sr λ_ J2=>P3 ?_);refine CR Dq (mo n bs from' to') ID λvR HR hR=>?_
 obtain⟨hw,rfl⟩:=hR;rcases hw with⟨hv,rfl⟩| ⟨hv,rfl⟩
 refine PS ?_;refine nx J2 (sr λ_ J3=>PS ?_);refine tp (fy rfl w8 rfl rfl) ?_;refine P3 ?_;refine ce (H':=[gE 184 5 (bs.getD (bD from' to') 0) (W.getD (bD from' to') []),fo 184 5 bs W (bD from' to'),aj n (dp bs) 135]) (λ_ s=>np hv (aA [1] rfl s)) (CF H5 (um (bs.getD (bD from' to') 0) (W.getD (bD from' to') []) x by' hb) ID (λ_ d _=>Ny hF d) ?_);refine P2 ?_;refine nx J3 (ah (aF (H':=[aj n (dp bs) 135,ey 184 5 bs (od W from' to' by')]) (cZ _) (λ_ s=>by unfold od;rw[if_pos hv];exact aA [1,0] rfl (sL hv hW (aA [0,0,0] rfl s))) (av rfl rfl ?_)));exact⟨by unfold rY;rw[hv];rfl,rfl⟩;refine PS ?_;refine nx J2 (sr λ_ J4=>PS ?_);refine tp (iE rfl w8 rfl rfl) ?_;refine PS ?_
 iterate 3 refine UF ?_
 refine P2 ?_;refine nx J4 (ah (WK [0,0] (av rfl rfl ?_)));exact⟨by unfold rY;rw[hv];rfl,by unfold od;rw[hv];rfl⟩
theorem zJ(n:Nat)(W:List (List (List UInt8)))(from' to':Int)(x:Value)(by':List UInt8)(hb:by'.length≤1000000)(hW:W.length=25):DT 212 #[.pointer (some ⟨n,0,none⟩), .int .i64 from', .int .i64 to',x] (IsW x by') [eg 135 184 5 n W] (RI (.bool (rY W from' to')) [eg 135 184 5 n (od W from' to' by')]):=
 Leg.Does.pack (B:=[]) λbs=>Leg.Does.fold (xx n bs W from' to' x by' hb hW) λe H hp=>by
  cases e with
  |returned v=>
   obtain⟨rfl,rfl⟩:=hp;exact⟨_,λ_ s=>bo (p:=λbs:List Nat=>[aj n (dp bs) 135,ey 184 5 bs (od W from' to' by')]) (H:=[]) bs s,rfl,rfl⟩
  |panicked c=>exact hp.elim
  |outgrown=>exact hp.elim
def iR(f t:Int)(bs:List UInt8):List UInt8:=pv ([b8 f,b8 t]++bs)
theorem DP(from' to':Int)(x:Value)(by':List UInt8)(hb:by'.length≤100000):
 DT 218 #[(.int .i64 (from')),(.int .i64 (to')),x] (IsW x by') [] (c9 (λv H=>∃u,v=u∧H=[cu u (iR from' to' by') 5])):=by
 refine BD 23 Tryz.func218 rfl rfl rfl λw0 F hF=>sr λ_ J1=>PS ?_
 refine nx J1 (sr λ_ J2=>PS ?_);refine tp (c8 rfl e8 rfl hF.len) ?_;refine AD ?_;refine TL.makeB (0) (2+by'.length) (ab rfl) rfl rfl rfl e8 sH rfl rfl rfl (by omega) (by omega) (by omega) (λb11=>ce (H':=[cu (.slice (some ⟨b11,0,none⟩) 0 (2+by'.length)) ([]) 5]) (λ_ s=>rI 0 rfl rfl (by omega) (by simp only[maxLen];omega) (by simp[dw]) rfl s) (PS ?_));refine nx J2 (sr λ_ J3=>P2 ?_);refine tp (cp (r:=(((b8 from').toNat:Nat):Int)) rfl Y3 Y5 rfl (uS _)) ?_;refine PS ?_;refine tp (cp (r:=(((b8 to').toNat:Nat):Int)) rfl Y3 Y5 rfl (uS _)) ?_;refine aL (cells:=#[(.int .u8 ((((b8 from').toNat:Nat):Int))),(.int .u8 ((((b8 to').toNat:Nat):Int)))]) (ab rfl) rfl rfl rfl e8 sH rfl rfl rfl (by as_aux_lemma=>kernel_rfl) (λb17=>bO (k:=1) (news:=dw ([(b8 from'),(b8 to')])) (nn':=([(b8 from'),(b8 to')]:List UInt8).length) (xs':=dw ([(b8 from'),(b8 to')])) (ab rfl) rfl rfl rfl e8 sH rfl rfl rfl rfl rfl rfl (λ_ _=>fB rfl (RO 0) rfl) (eB [(b8 from'),(b8 to')]) (by simp only[maxLen,az,aw];omega) (by simp only[az,aw];omega) (by simp<;>omega) (ca _) (λv18 ov18=>PS ?_));refine nx J3 (sr λ_ J4=>P2 ?_)
 refine bO (k:=1) (news:=dw (by')) (nn':=([(b8 from'),(b8 to')]++by':List UInt8).length) (xs':=dw ([(b8 from'),(b8 to')]++by')) (ab rfl) rfl rfl rfl e8 sH rfl rfl rfl rfl rfl rfl (λ_ _=>hF.src (λ_ h=>dG h)) (eB _) (by simp only[maxLen,ag,aw,az];omega) (by simp only[ag,aw,az];omega) (by simp<;>omega) (fL _ _).symm (λv21 ov21=>CQ Ka (tC v21 ([(b8 from'),(b8 to')]++by') (by simp only[ag,aw,az];omega)) ID (λg d s=>IS (si 1 rfl rfl g d s)) λvR HR hR=>?_);have hR:=hR;subst hR;refine PS ?_;exact nx J4 (ah (WK [0] (av rfl rfl ⟨_,rfl,rfl⟩)))
theorem qV(f t:Int)(bs:List UInt8):(iR f t bs).length=bs.length+6:=by
 unfold iR;rw[kq];simp only[ag,aw,az];omega
theorem xC(n:Nat)(W:List (List (List UInt8)))(from' to':Int)(x:Value)(by':List UInt8)(hb:by'.length≤3000)(hW:W.length=25):
 DT 216 #[(.pointer (some ⟨n,0,none⟩)),(.int .i64 (from')),(.int .i64 (to')),x] (IsW x by') [eg 135 184 5 n (W)] (RI (.bool (rY W from' to')) [eg 135 184 5 n (od W from' to' (iR from' to' by'))]):=by
 refine BD 24 Tryz.func216 rfl rfl rfl λw0 F hF=>?_
 have hfl:(iR from' to' by').length≤1000000:=by rw[qV];omega
 refine sr λ_ J1=>PS ?_
 refine nx J1 (aa λ_ J2=>sr λ_ J3=>PS ?_);refine tp (fG rfl II rfl rfl) ?_;refine P2 ?_;refine tq (c8 rfl e8 rfl hF.len) ?_;refine PS ?_;refine ao ?_ ?_<;>intro h14
 · exact absurd h14 (by omega)
 refine PS ?_;refine nx J3 (CN (qx J2 (sr λ_ J4=>?_)))
 iterate 6 refine PS ?_
 refine CQ Mu (DP from' to' x by' (by omega)) ID (λ_ d _=>Ny hF d) λvR HR hR=>?_
 obtain⟨_,rfl,rfl⟩:=hR;revert vR;intro uf;refine CF My (zJ n W from' to' uf (iR from' to' by') hfl hW) (SM [1]) (λg d s=>IS (si 0 rfl rfl g d s)) ?_;refine PS ?_;exact nx J4 (ah (WK [0] (av rfl rfl ⟨rfl,rfl⟩)))
theorem xD(from' to':Int)(x:Value)(by':List UInt8)(h0:0<by'.length)(hb:by'.length≤100000):
 DT 118 #[(.int .i64 (from')),(.int .i64 (to')),x] (IsW x (iR from' to' by')) [] (c9 (λv H=>∃u,v= .tuple #[u, .bool true]∧H=[gz u by' 5])):=by
 refine BD 40 Tryz.func118 rfl rfl rfl λw0 F hF=>?_
 have hfl:(iR from' to' by').length≤1000000000:=by rw[qV];omega
 refine sr λ_ J1=>P2 ?_
 refine nx J1 (sr λ_ J2=>PS ?_);refine CQ Kj (ye x (iR from' to' by') hfl) ID (λ_ d _=>Ny hF d) λvR HR hR=>?_
 rcases hR with⟨ht',_,_⟩| ⟨t,u,ht',rfl,rfl⟩
 · exact absurd ht' (by unfold iR;rw[qB];simp)
 obtain rfl:t=([b8 from',b8 to']++by'):=by unfold iR at ht';rw[qB]at ht';exact(dK ht').symm
 refine ij 0 rfl rfl (by simp) (λg cap hv hcap=>?_);have hv2:u= .slice (some ⟨g,0,none⟩) (by'.length+2) cap:=hv;refine P4 ?_;refine PS ?_;refine nx J2 (aa λ_ J3=>sr λ_ J4=>PS ?_);refine PS ?_;refine P2 ?_;refine tq (c8 rfl e8 rfl (by rw[hv2];exact⟨_,_,rfl⟩)) ?_;refine PS ?_;refine ao ?_ ?_<;>intro h20
 · exact absurd h20 (by omega)
 refine P3 ?_;refine tq (bg (r:=0) hv2 rfl e8 js rfl rfl (by omega) (by omega) rfl) ?_;refine tq (bZ (v:=(.int .u8 ((((b8 from').toNat:Nat):Int)))) rfl Y5 rfl rfl (fI 0 rfl hv rfl) (qv (l:=([b8 from',b8 to']++by')) (j:=0) (by simp))) ?_;refine PS ?_;refine tq (cp (r:=(((b8 from').toNat:Nat):Int)) rfl Y3 Y5 rfl (uS _)) ?_;refine PS ?_;refine ao ?_ ?_<;>intro h28
 · exact absurd rfl h28
 refine P3 ?_;refine tq (bg (r:=1) hv2 rfl e8 js rfl rfl (by omega) (by omega) rfl) ?_;refine tq (bZ (v:=(.int .u8 ((((b8 to').toNat:Nat):Int)))) rfl Y5 rfl rfl (fI 0 rfl hv rfl) (qv (l:=([b8 from',b8 to']++by')) (j:=1) (by simp))) ?_;refine PS ?_;refine tq (cp (r:=(((b8 to').toNat:Nat):Int)) rfl Y3 Y5 rfl (uS _)) ?_;refine PS ?_;refine ao ?_ ?_<;>intro h36
 · exact absurd rfl h36
 refine PS ?_;refine nx J4 (CN (qx J3 (sr λ_ J5=>PS ?_)));refine tp (kB (PV.sliceL (a:=some ⟨g,0,none⟩) (len:=by'.length+2) (cap:=cap) (lo:=2) rfl e8 js (by rw[←hv2];rfl) rfl rfl (by omega)) (congrArg (λq=>jz q 2 (by'.length+2)) hv2.symm)) ?_;refine P2 ?_;exact nx J5 (ah (aF (H':=[gz (jz u 2 (by'.length+2)) by' 5]) (cZ _) (λ_ s=>vC 0 rfl rfl hv (by omega) (by simp) (by simp;omega) (by simp) s) (gJ rfl rfl rfl ⟨_,rfl,rfl⟩)))
theorem wx(n:Nat)(bs:List Nat)(W:List (List (List UInt8)))(from' to':Int)(by':List UInt8)(ls:List (List UInt8))(hv:dz from' to'=true)(hW:W.length=25)(hk:W.getD (bD from' to') []=iR from' to' by'::ls)(h0:0<by'.length)(hb:by'.length≤100000):
 DT 80 #[(.pointer (some ⟨n,0,none⟩)),(.int .i64 (from')),(.int .i64 (to'))] T0 [aj n (dp bs) 135,ey 184 5 bs (W)] (c9 (λv H=>∃u,v= .tuple #[u, .bool true]∧H=[aj n (dp bs) 135,ey 184 5 bs (W.set (bD from' to') ls),gz u by' 5])):=by
 refine BD 32 Tryz.func80 rfl rfl rfl λw0 F hF=>sr λ_ J1=>P2 ?_
 refine nx J1 (aa λ_ J2=>sr λ_ J3=>PS ?_);refine tp (fG rfl II rfl rfl) ?_;refine nx J3 (CN (qx J2 (sr λ_ J4=>P3 ?_)));refine CR Dq (mo n bs from' to') ID λvR HR hR=>?_
 obtain⟨hw,rfl⟩:=hR;obtain⟨_,rfl⟩:dz from' to'=true∧vR= .pointer (some ⟨(bs.getD (bD from' to') 0),0,none⟩):=hw.resolve_right (λq=>by rw[hv]at q;cases q.1)
 refine PS ?_;refine nx J4 (aa λ_ J5=>sr λ_ J6=>PS ?_);refine tp (fG rfl w8 rfl rfl) ?_;refine nx J6 (CN (qx J5 (sr λ_ J7=>PS ?_)));refine ce (H':=[gE 184 5 (bs.getD (bD from' to') 0) (W.getD (bD from' to') []),fo 184 5 bs W (bD from' to'),aj n (dp bs) 135]) (λ_ s=>np hv (aA [1] rfl s)) (CR Kp (sB (bs.getD (bD from' to') 0) (W.getD (bD from' to') [])) ID λvR HR hR=>?_);rcases hR with⟨he,_,_⟩| ⟨u,f,ls',he,rfl,rfl⟩
 · rw[he]at hk;cases hk
 rw[hk]at he;obtain⟨rfl,rfl⟩:=List.cons.inj he;refine P4 ?_;refine PS ?_;refine nx J7 (aa λ_ J8=>sr λ_ J9=>PS ?_);refine PS ?_;refine nx J9 (CN (qx J8 (sr λ_ J10=>P3 ?_)));refine CQ M2 (xD from' to' u by' h0 hb) ID (λg d s=>IS (zR 1 rfl rfl g d s)) λvR HR hR=>?_
 obtain⟨uv,rfl,rfl⟩:=hR;refine P4 ?_;exact nx J10 (ah (aF (H':=[aj n (dp bs) 135,ey 184 5 bs (W.set (bD from' to') ls),gz uv by' 5]) (cZ _) (λ_ s=>aA [1,0] rfl (sL hv hW (ak [1,2,2,0] rfl s))) (gJ rfl rfl rfl ⟨_,rfl,rfl⟩)))
theorem qk(n:Nat)(W:List (List (List UInt8)))(from' to':Int)(by':List UInt8)(ls:List (List UInt8))(hv:dz from' to'=true)(hW:W.length=25)(hk:W.getD (bD from' to') []=iR from' to' by'::ls)(h0:0<by'.length)(hb:by'.length≤100000):DT 80 #[.pointer (some ⟨n,0,none⟩), .int .i64 from', .int .i64 to'] T0 [eg 135 184 5 n W] (c9 (λv H=>∃u,v= .tuple #[u, .bool true]∧H=[eg 135 184 5 n (W.set (bD from' to') ls),gz u by' 5])):=
 Leg.Does.pack (B:=[]) λbs=>Leg.Does.fold (wx n bs W from' to' by' ls hv hW hk h0 hb) λe H hp=>by
  cases e with
  |returned v=>
   obtain⟨u,rfl,rfl⟩:=hp;exact⟨[eg 135 184 5 n (W.set (bD from' to') ls),gz u by' 5],λ_ s=>bo (p:=λbs:List Nat=>[aj n (dp bs) 135,ey 184 5 bs (W.set (bD from' to') ls)]) (H:=[gz u by' 5]) bs s,u,rfl,rfl⟩
  |panicked c=>exact hp.elim
  |outgrown=>exact hp.elim
end Go.Proofs.YtfocodjhmkokpaaGreatDoor
end

section
namespace Leg
open Go Codec Api
section
variable {P:Program} {n:Nat} {D:List Deferred} {L:List (Nat×Value)} {S:World→Prop} {o:Oper}
theorem PV.ptrNeIf{c:Prop}[Decidable c]{t t':TypeId}{x y:Operand}{a:Addr}(ho:o.op= .binOp .neq t x y t')(ht:P.underlying t=some (.pointer (P.pointee t)))(hx:cE L x=some (if c then .pointer none else .pointer (some a)))(hy:cE L y=some (.pointer none)):PV P n D L S o (.bool (!decide c)):=by
 by_cases h:c
 · rw[if_pos h]at hx;rw[decide_eq_true h];exact iE ho ht hx hy
 · rw[if_neg h]at hx;rw[decide_eq_false h];exact fy ho ht hx hy
end
abbrev HF(bs:List Nat)(k:Nat):Value:=if k%6=0 then .pointer none else .pointer (some ⟨bs.getD k 0,0,none⟩)
def rO(bs:List Nat)(i:Nat):List Value:=(List.range 5).map λj=>HF bs (i*5+j)
theorem ny(bs:List Nat)(i:Nat):(rO bs i).length=5:=by simp[rO]
theorem Hv(bs:List Nat)(i:Nat): ∀v∈rO bs i,v.oneCell'=true:=by
 intro v hv;simp only[rO,fT]at hv;obtain⟨j,_,rfl⟩:=hv;show(if _ then _ else _:Value).oneCell'=true;split<;>rfl
theorem ED(bs:List Nat)(i:Nat){j:Nat}(h:j<5):(rO bs i)[j]?=some (HF bs (i*5+j)):=by simp[rO,h]
theorem Hw(bs:List Nat){i:Nat}(h:i<5):((dp bs).drop (i*5)).take 5=rO bs i:=by
 refine List.ext_getElem? λj=>?_
 by_cases hj:j<5
 · rw[List.getElem?_take_of_lt hj,List.getElem?_drop,Bj bs (by omega),ED bs i hj]
 · rw[List.getElem?_eq_none (by rw[bq];omega),List.getElem?_eq_none (by rw[ny];omega)]
def lq(W:List (List (List UInt8)))(k:Nat):Nat:=((List.range k).map λq=>if q%6=0 then 0 else(W.getD q []).length).sum
theorem qQ(W:List (List (List UInt8)))(k:Nat):lq W (k+1)=lq W k+(if k%6=0 then 0 else(W.getD k []).length):=by simp[lq,cC]
def lj(bs:List Nat):List Value:=(List.range 25).map λq=>if q%6=0∨bs.length≤q then .pointer none else .pointer (some ⟨bs.getD q 0,0,none⟩)
theorem yv(bs:List Nat):(lj bs).length=25:=by simp[lj]
theorem F0{bs:List Nat}{b:Nat}(h:bs.length<25)(hd: ¬bs.length%6=0):(lj bs).set bs.length (.pointer (some ⟨b,0,none⟩))=lj (bs++[b]):=by
 refine List.ext_getElem? λj=>?_
 by_cases hj:j=bs.length
 · subst hj
   rw[List.getElem?_set_self (by rw[yv];exact h)];simp[lj,h,hd,List.getD_eq_getElem?_getD]
 · rw[List.getElem?_set_ne (λe=>hj e.symm)]
   simp only[lj,List.getElem?_map];cases hr:(List.range 25)[j]?with
   |none=>rfl
   |some q=>
    have hq:q=j:=by
     by_cases h25:j<25
     · simp[h25]at hr;exact hr.symm
     · simp[h25]at hr
    subst hq;simp only[Option.map_some,ag,aw,az];congr 1
    by_cases hlt:q<bs.length
    · simp[show ¬bs.length≤q by omega,show ¬bs.length+1≤q by omega,List.getElem?_append_left hlt]
    · simp[show bs.length≤q by omega,show bs.length+1≤q by omega]
theorem Dh{bs:List Nat}{b:Nat}(hd:bs.length%6=0):lj (bs++[b])=lj bs:=by
 unfold lj;refine eD λq hq=>?_
 rw[ag,gh]
 by_cases hq6:q%6=0
 · simp[hq6]
 · by_cases hlt:q<bs.length
   · simp[hq6,show ¬bs.length≤q by omega,show ¬bs.length+1≤q by omega,List.getElem?_append_left hlt]
   · have: ¬q=bs.length:=λe=>hq6 (by rw[e];exact hd)
     simp[show bs.length≤q by omega,show bs.length+1≤q by omega]
theorem F1{bs:List Nat}(h:bs.length=25):lj bs=dp bs:=by
 unfold lj dp;refine eD λq hq=>?_
 rw[dO]at hq;simp[show ¬bs.length≤q by omega]
def oq(T U:Nat)(bs:List Nat)(q:Nat):HP:=if q%6=0 then(λ_=>True)else gE T U (bs.getD q 0) []
def jY(T U:Nat)(bs:List Nat):HP:=bK ((List.range bs.length).map (oq T U bs))
theorem Eh(T U:Nat){H:List HP}{h:Hl}(s:bK H h):bK (jY T U []::H) h:=⟨em,h,Cu h,(qn h).symm,trivial,s⟩
theorem Ei(T U:Nat)(bs:List Nat)(b:Nat):(List.range bs.length).map (oq T U (bs++[b]))=(List.range bs.length).map (oq T U bs):=
 eD λq hq=>by
  rw[dO]at hq;unfold oq;rw[show(bs++[b]).getD q 0=bs.getD q 0 by simp[List.getElem?_append_left hq]]
theorem ul(T U:Nat)(bs:List Nat)(b:Nat){H:List HP}{h:Hl}(s:bK (oq T U (bs++[b]) bs.length::jY T U bs::H) h):bK (jY T U (bs++[b])::H) h:=by
 have e:(List.range (bs++[b]).length).map (oq T U (bs++[b]))=(List.range bs.length).map (oq T U bs)++[oq T U (bs++[b]) bs.length]:=by
  rw[ag,gh,cC,el,Ei];rfl
 obtain⟨h1,h2,d,rfl,a,b'⟩:=s;have s2:bK ((oq T U (bs++[b]) bs.length::(List.range bs.length).map (oq T U bs))++H) (jn h1 h2):=⟨h1,h2,d,rfl,a,(bY _ _).2 b'⟩;have p:((oq T U (bs++[b]) bs.length::(List.range bs.length).map (oq T U bs))++H).Perm (((List.range bs.length).map (oq T U bs)++[oq T U (bs++[b]) bs.length])++H):=(List.perm_append_comm (l₁:=[oq T U (bs++[b]) bs.length])).append_right H;have s3:=dY p s2;rw[←e]at s3;exact(bY _ _).1 s3
theorem Cj(T U:Nat)(bs:List Nat)(hd:bs.length%6=0){H:List HP}{h:Hl}(s:bK (jY T U bs::H) h):bK (jY T U (bs++[0])::H) h:=by
 refine ul T U bs 0 ⟨em,h,Cu h,(qn h).symm,?_,s⟩;unfold oq;rw[if_pos hd];trivial
theorem Ej{T U:Nat}{bs:List Nat}(h:bs.length=25):jY T U bs=ey T U bs (List.replicate 25 []):=by
 unfold jY ey oN;rw[h];refine congrArg bK ?_;refine eD λq hq=>?_
 rw[dO]at hq;unfold oq qq;rw[show(List.replicate 25 ([]:List (List UInt8))).getD q []=[]by rw[List.getD_eq_getElem?_getD,List.getElem?_replicate,if_pos hq];rfl]
theorem Iy{T U:Nat}{bs:List Nat}{W:List (List (List UInt8))}{k:Nat}(h6: ¬k%6=0)(hk:k<25){H:List HP}{h:Hl}(s:bK (ey T U bs W::H) h):bK (gE T U (bs.getD k 0) (W.getD k [])::fo T U bs W k::H) h:=by
 have:=wV hk s
 rwa [p7 h6]at this
theorem Ix{T U:Nat}{bs:List Nat}{W:List (List (List UInt8))}{k:Nat}(h6: ¬k%6=0)(hk:k<25){H:List HP}{h:Hl}(s:bK (gE T U (bs.getD k 0) (W.getD k [])::fo T U bs W k::H) h):bK (ey T U bs W::H) h:=by
 refine uk (W:=W) hk (λ_ _=>rfl) ?_;rw[p7 h6];exact s
end Leg
end

section
namespace Go.Proofs.YtfocodjhmkokpaaGreatDoor
open Go Leg Codec Api Dsk Wal
theorem zK(n:Nat)(bs:List Nat)(W:List (List (List UInt8)))(hsm: ∀k,k<25→lq W k+(W.getD k []).length≤1000000000):
 DT 51 #[(.pointer (some ⟨n,0,none⟩))] T0 [aj n (dp bs) 135,ey 184 5 bs (W)] (RI (.int .i64 ((lq W 25:Nat):Int)) [aj n (dp bs) 135,ey 184 5 bs W]):=by
 refine BD 28 Tryz.func51 rfl rfl rfl λw0 F hF=>sr λ_ J1=>PS ?_
 refine nx J1 (sr λ_ J2=>PS ?_);refine nx J2 (aa λ_ J3=>sr λ_ J4=>P2 ?_);refine FA 0 Tryz.underlying135 Ev ?_;refine tp (aK (vs:=dp bs) rfl JV rfl Ev rfl (RO 0) (yu bs) (vi (yu bs))) ?_;refine PS ?_;refine nx J4 (am ?_)
 refine bu (α:=(Nat)) (λi=>i≤5) (λi=>[(2,(.int .i64 0)),(3,(.int .i64 (((lq W (i*5):Nat):Int)))),(11,(.agg (dp bs).toArray)),(12,(.int .i64 (((i:Nat):Int))))]) (λi=>[aj n (dp bs) 135,ey 184 5 bs (W)]) (λi=>5-i) 0
  (aN _) SB
  (λ_ s=>s) (λi hinv=>?_)
 obtain hi:=hinv;refine sr λ_ J5=>PS ?_
 refine ao ?_ ?_<;>intro h13;refine nx J5 (aa λ_ J6=>CY (qx J6 (aa λ_ J7=>am (sr λ_ J8=>tp (O0 (cs:=dp bs) (vs:=rO bs i) (r:=i*5) rfl JV IL rfl AJ rfl rfl (by omega) (by omega) (by omega) (Hw bs (by omega))) ?_))));refine XA NR λb5=>?_
 refine bL (vs:=rO bs i) (i:=0) (ab rfl) rfl rfl rfl rfl rfl (by rw[ny bs i];exact AJ) (Hv bs i) rfl rfl (by rw[ny bs i];exact aQ _) (iH (Eq.trans (rfl:_=5) (by rw[ny bs i]:(rO bs i).length=5).symm)) rfl (nx J8 (sr λ_ J9=>tp (aK (vs:=rO bs i) rfl IL rfl AJ rfl (RO 0) (ny bs i) (vi (ny bs i))) ?_));refine PS ?_;refine nx J9 (am ?_)
 refine bu (α:=(Nat)) (λj=>j≤5) (λj=>[(2,(.int .i64 0)),(3,(.int .i64 (((lq W (i*5+j):Nat):Int)))),(11,(.agg (dp bs).toArray)),(12,(.int .i64 (((i:Nat):Int)))),(15,(.agg (rO bs i).toArray)),(16,(.int .i64 (((j:Nat):Int))))]) (λj=>[aj n (dp bs) 135,ey 184 5 bs (W)]) (λj=>5-j) 0
  (aN _) SB
  (λ_ s=>ak [1,1] rfl s) (λj hinv=>?_)
 obtain hj:=hinv;refine sr λ_ J10=>PS ?_
 refine ao ?_ ?_<;>intro h17;refine nx J10 (aa λ_ J11=>CY (qx J11 (aa λ_ J12=>am (sr λ_ J13=>tp (ia (cs:=rO bs i) (v:=HF bs (i*5+j)) (r:=j) rfl IL w8 rfl Ew rfl rfl (by omega) (by omega) (by omega) (ED bs i (by omega))) ?_))));refine PS ?_;refine nx J13 (sr λ_ J14=>PS ?_);refine tp (PV.ptrNeIf rfl w8 rfl rfl) ?_;refine bc ?_ ?_<;>intro h20;have h20: ¬((i*5+j)%6=0):=by simpa using h20
 refine TL.weak (L':=[(2,(.int .i64 0)),(3,(.int .i64 (((lq W (i*5+j):Nat):Int)))),(7,(.pointer (some ⟨(bs.getD (i*5+j) 0),0,none⟩))),(11,(.agg (dp bs).toArray)),(12,(.int .i64 (((i:Nat):Int)))),(15,(.agg (rO bs i).toArray)),(16,(.int .i64 (((j:Nat):Int)))),(17,(.bool true)),(18,(HF bs (i*5+j))),(19,(HF bs (i*5+j))),(20,(.bool true))]) (bC rfl rfl (bC rfl rfl (bC rfl (if_neg h20) (bC rfl rfl (bC rfl rfl (bC rfl rfl (bC rfl rfl (bC rfl rfl (bC rfl rfl (bC rfl rfl (bC rfl rfl SB))))))))))) (λ_ s=>s) (ce (H':=[gE 184 5 (bs.getD (i*5+j) 0) (W.getD (i*5+j) []),fo 184 5 bs W (i*5+j),aj n (dp bs) 135]) (λ_ s=>Iy h20 (by omega) (aA [1] rfl s)) (nx J14 (CY (ad (P2 ?_)))));refine CE Br (iU (bs.getD (i*5+j) 0) (W.getD (i*5+j) [])) ID ?_;refine tp (bv (r:=((lq W (i*5+j)+(W.getD (i*5+j) []).length:Nat):Int)) rfl rfl rfl (by rw[←Int.natCast_add];exact bG (by omega) (by have:=hsm (i*5+j) (by omega);omega))) ?_;refine PS ?_;refine ap (af (ac J12 (ad (AD ?_))));refine PS ?_;refine ap ?_
 exact aJ ((j+1):(Nat)) (by omega) (by show 5- (j+1)<5-j;omega)
  (aX (bC rfl (by rw[show lq W (i*5+(j+1))=lq W (i*5+j)+(W.getD (i*5+j) []).length from by rw[←oY,qQ,if_neg h20]]) SB))
  (λ_ s=>aA [1,0] rfl (Ix h20 (by omega) (ak [0,0,0] rfl s)))
 refine nx J14 (CN (aM (af (ac J12 (ad (AD ?_))))));refine PS ?_;refine ap ?_
 exact aJ ((j+1):(Nat)) (by omega) (by show 5- (j+1)<5-j;omega)
  (aX (bC rfl (by rw[show lq W (i*5+(j+1))=lq W (i*5+j)from by rw[←oY,qQ,if_pos (by simpa using h20),xY]]) SB))
  (λ_ s=>s)
 refine nx J10 (aa λ_ J15=>CN (aV (ay (ay (bh (af (ac J7 (ad (AD ?_)))))))));refine PS ?_;refine ap ?_
 exact aJ ((i+1):(Nat)) (by omega) (by show 5- (i+1)<5-i;omega)
  (aX (bC rfl (by rw[show(i+1)*5=i*5+j by omega]) SB))
  (λ_ s=>s)
 refine nx J5 (aa λ_ J16=>CN (aV (ay (ay (bh (ac J3 (sr λ_ J17=>P2 ?_)))))));refine nx J17 (ah (WK [0,0] (av rfl rfl ?_)));exact⟨by rw[show i*5=25 by omega],rfl⟩
theorem Bx(n:Nat)(W:List (List (List UInt8)))(hsm: ∀k,k<25→lq W k+(W.getD k []).length≤1000000000):DT 51 #[.pointer (some ⟨n,0,none⟩)] T0 [eg 135 184 5 n W] (RI (.int .i64 ((lq W 25:Nat):Int)) [eg 135 184 5 n W]):=
 Leg.Does.pack (B:=[]) λbs=>Leg.Does.fold (zK n bs W hsm) λe H hp=>by
  cases e with
  |returned v=>
   obtain⟨rfl,rfl⟩:=hp;exact⟨[eg 135 184 5 n W],λ_ s=>bo (p:=λbs:List Nat=>[aj n (dp bs) 135,ey 184 5 bs W]) (H:=[]) bs s,rfl,rfl⟩
  |panicked c=>exact hp.elim
  |outgrown=>exact hp.elim
theorem Iz{T U:Nat}{bs:List Nat}{b:Nat}(h: ¬bs.length%6=0):oq T U (bs++[b]) bs.length=gE T U b []:=by
 unfold oq;rw[if_neg h,List.getD_eq_getElem?_getD,List.getElem?_append_right (aQ _),xX];rfl
theorem Ek{T U:Nat}{bs:List Nat}{b:Nat}(hl: ¬bs.length%6=0){H:List HP}{h:Hl}(s:bK (gE T U b []::jY T U bs::H) h):bK (jY T U (bs++[b])::H) h:=ul T U bs b (by rw[Iz hl];exact s)
theorem Bw:
 DT 41 #[] T0 [] (c9 (λv H=>∃n,v= .pointer (some ⟨n,0,none⟩)∧H=[eg 135 184 5 n (List.replicate 25 [])])):=by
 refine Leg.Does.body (vs:=[]) (n:=26) Tryz.func41 rfl rfl rfl (λw0 F hF=>?_);refine sr λ_ J1=>?_
 refine lc ?_;refine nx J1 ?_;refine sr λ_ J2=>?_
 refine tp (jF (cells:=#[(.pointer none),(.pointer none),(.pointer none),(.pointer none),(.pointer none),(.pointer none),(.pointer none),(.pointer none),(.pointer none),(.pointer none),(.pointer none),(.pointer none),(.pointer none),(.pointer none),(.pointer none),(.pointer none),(.pointer none),(.pointer none),(.pointer none),(.pointer none),(.pointer none),(.pointer none),(.pointer none),(.pointer none),(.pointer none)]) rfl rfl (by as_aux_lemma=>kernel_rfl)) ?_;refine TL.box (ab rfl) rfl rfl rfl rfl (λb5=>?_);change TL _ _ _ _ _ _ _ _ _ [aj b5 [(.pointer none),(.pointer none),(.pointer none),(.pointer none),(.pointer none),(.pointer none),(.pointer none),(.pointer none),(.pointer none),(.pointer none),(.pointer none),(.pointer none),(.pointer none),(.pointer none),(.pointer none),(.pointer none),(.pointer none),(.pointer none),(.pointer none),(.pointer none),(.pointer none),(.pointer none),(.pointer none),(.pointer none),(.pointer none)] 135];refine lc ?_;refine nx J2 ?_;refine aa λ_ J3=>?_
 refine sr λ_ J4=>?_
 refine mv ?_;refine nx J4 ?_;refine am ?_
 refine bu (α:=(Nat)×(List Nat)) (λ⟨i,bs⟩=>i≤5∧bs.length=i*5) (λ⟨i,bs⟩=>[(0,(.pointer none)),(1,(.pointer (some ⟨b5,0,none⟩))),(6,(.int .i64 (((i:Nat):Int))))]) (λ⟨i,bs⟩=>[aj b5 (lj (bs)) 135,jY 184 5 (bs)]) (λ⟨i,bs⟩=>5-i) (0,[])
  ⟨aN _,rfl⟩ (aX (aX (bC rfl (by congr 1) (LL _))))
  (λ_ s=>aA [1,0] rfl (Eh 184 5 s)) (λ⟨i,bs⟩ hinv=>?_)
 obtain⟨hi,hbs⟩:=hinv;refine sr λ_ J5=>?_
 refine tp (xU rfl rfl rfl) ?_;refine ao (λh7=>?_) (λh7=>?_);refine nx J5 ?_;refine aa λ_ J6=>?_
 refine jD rfl ?_;refine aM ?_;refine ac J6 ?_;refine aa λ_ J7=>?_
 refine am ?_;refine sr λ_ J8=>?_
 refine mv ?_;refine lc ?_;refine nx J8 ?_;refine sr λ_ J9=>?_
 refine mv ?_;refine nx J9 ?_;refine am ?_
 refine bu (α:=(Nat)×(List Nat)) (λ⟨j,bs2⟩=>j≤5∧bs2.length=i*5+j) (λ⟨j,bs2⟩=>[(0,(.pointer none)),(1,(.pointer (some ⟨b5,0,none⟩))),(2,(.int .i64 (((i:Nat):Int)))),(6,(.int .i64 (((i:Nat):Int)))),(9,(.int .i64 (((j:Nat):Int))))]) (λ⟨j,bs2⟩=>[aj b5 (lj (bs2)) 135,jY 184 5 (bs2)]) (λ⟨j,bs2⟩=>5-j) (0,bs)
  ⟨aN _,hbs⟩ (aX (aX (aX (aX (bC rfl (by congr 1) (LL _))))))
  (λ_ s=>s) (λ⟨j,bs2⟩ hinv=>?_)
 obtain⟨hj,hbl⟩:=hinv;refine sr λ_ J10=>?_
 refine tp (xU rfl rfl rfl) ?_;refine ao (λh10=>?_) (λh10=>?_);refine nx J10 ?_;refine aa λ_ J11=>?_
 refine jD rfl ?_;refine aM ?_;refine ac J11 ?_;refine aa λ_ J12=>?_
 refine am ?_;refine sr λ_ J13=>?_
 refine mv ?_;refine lc ?_;refine nx J13 ?_;refine sr λ_ J14=>?_
 refine mv ?_;refine mv ?_;refine tp (PV.neq rfl rfl rfl) ?_;refine ao (λh14=>?_) (λh14=>?_);refine nx J14 ?_;refine jD rfl ?_;refine oX (λw=>Frm F w∧True) cN rfl (λ_ s=>⟨dG s,trivial⟩) ?_;refine ta 0 rfl (iW rfl rfl) ?_;refine ta 1 rfl (iW rfl rfl) ?_;refine ta 2 rfl (iW rfl rfl) ?_;refine ta 4 rfl (eR rfl rfl) ?_;refine ta 5 rfl (aW (r:=0) rfl Tryz.underlying135 rfl Ev rfl rfl) ?_;refine ta 6 rfl (g8 (r:=i*5) rfl JV AJ rfl rfl (by omega) (by omega) (by omega)) ?_;refine cx [3] (by kernel_rfl) rfl ?_;refine aE rfl ?_ ?_;refine dM (A:=[]) (ab rfl) rfl rfl rfl N9 rfl (Ck) (λ_ s=>s) (λ_ _ _=>trivial) (λvR HR hR=>?_);obtain⟨bx,rfl,rfl⟩:=hR;change TL _ _ _ _ _ _ _ _ _ [gE 184 5 bx [],aj b5 (lj (bs2)) 135,jY 184 5 (bs2)];refine ap ?_;refine ka (λ_ s=>⟨dG s,trivial⟩) ?_;refine ta 7 rfl (g8 (r:=i*5+j) rfl IL Ew rfl rfl (by omega) (by omega) (by omega)) ?_;refine cx [8] (by kernel_rfl) rfl ?_;refine aE rfl ?_ ?_;refine bB (i:=1) (H':=[gE 184 5 bx [],aj b5 (lj (bs2++[bx])) 135,jY 184 5 (bs2)]) (ab rfl) rfl rfl rfl rfl rfl Ew rfl rfl (by rw[yv];omega) (by rw[show i*5+j=bs2.length by omega];exact F0 (by omega) (by omega)) rfl ?_;refine ap ?_;refine ka (λ_ s=>⟨dG s,trivial⟩) ?_;refine O5 (by kernel_rfl) ?_;refine af ?_;refine ac J12 ?_;refine ad ?_;refine tp (bv rfl rfl rfl (bG (by omega) (by omega))) ?_;refine mv ?_;refine ap ?_
 exact aJ ((j+1,bs2++[bx]):(Nat)×(List Nat)) ⟨by omega,by rw[ag,gh];omega⟩ (by show 5- (j+1)<5-j;omega)
  (aX (aX (aX (aX (bC rfl (by simp) (LL _))))))
  (λ_ s=>show bK [aj b5 (lj (bs2++[bx])) 135,jY 184 5 (bs2++[bx])] _ from aA [1,0] rfl (Ek (by omega) (ak [0,1,0] rfl s)))
 exact bz;exact bz;refine nx J14 ?_;refine nN rfl ?_;refine aM ?_;refine af ?_;refine ac J12 ?_;refine ad ?_;refine tp (bv rfl rfl rfl (bG (by omega) (by omega))) ?_;refine mv ?_;refine ap ?_
 exact aJ ((j+1,bs2++[0]):(Nat)×(List Nat)) ⟨by omega,by rw[ag,gh];omega⟩ (by show 5- (j+1)<5-j;omega)
  (aX (aX (aX (aX (bC rfl (by simp) (LL _))))))
  (λ_ s=>show bK [aj b5 (lj (bs2++[0])) 135,jY 184 5 (bs2++[0])] _ by rw[Dh (by omega)];exact aA [1,0] rfl (Cj 184 5 bs2 (by omega) (aA [1,0] rfl s)))
 refine nx J10 ?_;refine aa λ_ J15=>?_
 refine nN rfl ?_;refine aV ?_;refine ay ?_;refine ay ?_;refine bh ?_;refine af ?_;refine ac J7 ?_;refine ad ?_;refine tp (bv rfl rfl rfl (bG (by omega) (by omega))) ?_;refine mv ?_;refine ap ?_
 exact aJ ((i+1,bs2):(Nat)×(List Nat)) ⟨by omega,by omega⟩ (by show 5- (i+1)<5-i;omega)
  (aX (aX (bC rfl (by simp) (LL _))))
  (λ_ s=>s)
 refine nx J5 ?_;refine aa λ_ J16=>?_
 refine nN rfl ?_;refine aV ?_;refine ay ?_;refine ay ?_;refine bh ?_;refine ac J3 ?_;refine sr λ_ J17=>?_
 refine mv ?_;refine lc ?_;refine nx J17 ?_;refine ah ?_;refine aF (H':=[eg 135 184 5 b5 (List.replicate 25 [])]) (cZ _) (λ_ s=>bo (p:=λbs:List Nat=>[aj b5 (dp bs) 135,ey 184 5 bs (List.replicate 25 [])]) (H:=[]) bs (by rw[←F1 (by omega),←Ej (by omega)];exact s)) ?_;refine av rfl rfl ?_;exact⟨b5,rfl,rfl⟩
end Go.Proofs.YtfocodjhmkokpaaGreatDoor
end

section
namespace Leg
open Go Codec Api
def eG(n:Nat)(D M P:Nat→Value):List Value:= .pointer (some ⟨n,0,none⟩)::((List.range 5).map D++((List.range 5).map M++(List.range 5).map P))
section
variable (n:Nat) (D M P:Nat→Value) {i:Nat}
theorem qX:(eG n D M P).length=16:=by simp[eG]
theorem Ab:(eG n D M P)[0]?=some (.pointer (some ⟨n,0,none⟩)):=rfl
theorem Ea(h:i<5):(eG n D M P)[1+i]?=some (D i):=by
 rw[lO,eG,List.getElem?_cons_succ,List.getElem?_append_left (by simpa using h)];simp[h]
theorem wR(h:i<5):(eG n D M P)[6+i]?=some (M i):=by
 rw[show 6+i=(5+i)+1 by omega,eG,List.getElem?_cons_succ,List.getElem?_append_right (by simp),List.getElem?_append_left (by simp;omega)];simp[h]
theorem Ng(h:i<5):(eG n D M P)[11+i]?=some (P i):=by
 rw[show 11+i=(10+i)+1 by omega,eG,List.getElem?_cons_succ,List.getElem?_append_right (by simp;omega),List.getElem?_append_right (by simp;omega)];simp only[cb,IR];rw[show 10+i-5-5=i by omega];simp[h]
end
def mZ{α:Type}(f:Nat→α)(i:Nat)(v:α):Nat→α:=λj=>if j=i then v else f j
theorem k0{α:Type}(f:Nat→α)(i:Nat)(v:α):mZ f i v i=v:=if_pos rfl
theorem pd{α:Type}(f:Nat→α){i j:Nat}(v:α)(h:j≠i):mZ f i v j=f j:=if_neg h
theorem zP{α:Type}(f:Nat→α){i k:Nat}(h:i<k)(v:α):((List.range k).map f).set i v=(List.range k).map (mZ f i v):=by
 refine List.ext_getElem? λj=>?_
 by_cases hj:j=i
 · subst hj
   rw[List.getElem?_set_self (by simpa using h)];simp[h,k0]
 · rw[List.getElem?_set_ne (λe=>hj e.symm)]
   by_cases hk:j<k
   · simp[hk,pd f v hj]
   · simp[hk]
section
variable (n:Nat) (D M P:Nat→Value) {i:Nat} (v:Value)
theorem JP(h:i<5):(eG n D M P).set (1+i) v=eG n (mZ D i v) M P:=by
 rw[lO,eG,bS,pU _ _ (by simpa using h),zP D h];rfl
theorem uQ(h:i<5):(eG n D M P).set (6+i) v=eG n D (mZ M i v) P:=by
 rw[show 6+i=(5+i)+1 by omega,eG,bS,gg _ _ (by simp),pU _ _ (by simp;omega)];simp only[cb,IR];rw[show 5+i-5=i by omega,zP M h];rfl
theorem E5(h:i<5):(eG n D M P).set (11+i) v=eG n D M (mZ P i v):=by
 rw[show 11+i=(10+i)+1 by omega,eG,bS,gg _ _ (by simp;omega),gg _ _ (by simp;omega)];simp only[cb,IR];rw[show 10+i-5-5=i by omega,zP P h];rfl
end
abbrev Mc(c i:Nat):Value:= .agg #[.pointer (some ⟨c,0,none⟩), .int .i64 ((i:Nat):Int)]
end Leg
namespace Go.Proofs.YtfocodjhmkokpaaGreatDoor
open Go Leg Codec Api Dsk Wal
section
variable {CT NT BT U c n d i:Nat} {D M P:Nat→Value} {W:List (List (List UInt8))} {recs:List (List UInt8)} {l:List SaidT} {H:List HP} {h:Hl}
end
end Go.Proofs.YtfocodjhmkokpaaGreatDoor
end

section
namespace Api
open Go Leg Codec Dsk Wal
structure MS(δ:Type) where
 id:Int
 view:ViewT
 own:RowT
 mirror:MirT
 acc:AccT
 round:Int
 vote:Option VoteT
 book:BookT
 busy:Bool
 kept:Int
 waits:Int
 ops:Int
 replies:List ReplyT
 told:Vector Int 5
 last:Vector RowT 5
 e:δ
 o:List SaidT
structure Adr where
 lg:Nat
 vo:Value
 rs:Value
structure Dk(δ:Type) where
 pt:δ→List UInt8→δ×Int
 dn:δ→Bool
 ok:δ→Prop
 sure: ∀(e:δ) (bs:List UInt8),ok e→bs.length≤3000→ok (pt e bs).1
variable {δ:Type}
abbrev MS.rep(s:MS δ)(a:Adr):RepT:=⟨s.id, .pointer (some ⟨a.lg,0,none⟩),s.view,s.own,s.mirror,s.acc,s.round,a.vo,s.book,s.busy,s.kept,s.waits,s.ops,a.rs,s.told,s.last⟩
def MS.setView(s:MS δ)(v:ViewT):MS δ:= {s with view:=v}
def MS.setOwn(s:MS δ)(v:RowT):MS δ:= {s with own:=v}
def MS.setAcc(s:MS δ)(v:AccT):MS δ:= {s with acc:=v}
def MS.setRound(s:MS δ)(v:Int):MS δ:= {s with round:=v}
def MS.setBusy(s:MS δ)(v:Bool):MS δ:= {s with busy:=v}
def MS.setKept(s:MS δ)(v:Int):MS δ:= {s with kept:=v}
def MS.setWaits(s:MS δ)(v:Int):MS δ:= {s with waits:=v}
def MS.setOps(s:MS δ)(v:Int):MS δ:= {s with ops:=v}
def MS.setTold(s:MS δ)(v:Vector Int 5):MS δ:= {s with told:=v}
def MS.setLast(s:MS δ)(v:Vector RowT 5):MS δ:= {s with last:=v}
def Adr.nil:Adr:=⟨0, .pointer none, .slice none 0 0⟩
def cV(w:Int):Int:=IntKind.i64.wrap (1*2^min w.toNat IntKind.i64.bits)
def BC(a b:BallotT):Bool:=if a.round≠b.round then decide (a.round<b.round)else decide (a.who<b.who)
def yV(a:AccT)(ep:Int)(b:BallotT):Bool:=decide (ep≠a.epoch)||(decide (b.round<1)||BC b a.vow)
def bV(a:AccT)(ep:Int)(b:BallotT):AccT×Bool:=if yV a ep b then(a,false)else({a with vow:=b},true)
def gp(a:AccT)(ep:Int)(b:BallotT)(c:ChangeT):AccT×Bool:=if yV a ep b then(a,false)else({a with vow:=b,had:=b,change:=c},true)
def kH(bits:Int)(k:Nat):List Int:=((List.range k).filter λi:Nat=>GO bits ((i:Nat):Int)).map λi:Nat=>((i:Nat):Int)
def C5(bits:Int):List Int:=kH bits 5
def Kx(part all:Int):Bool:=decide (2* (((C5 (qc .i64 part all)).length:Nat):Int)>(((C5 all).length:Nat):Int))
def gA(v:ViewT)(bits:Int):Bool:=Kx bits v.members
def jO(v:ViewT)(b:BallotT)(c:ChangeT):VoteT:= {VoteT.zero with view:=v,ballot:=b,change:=c}
def nb(v:VoteT)(who:Int)(b:BallotT):Bool:=decide (b.flat=v.ballot.flat)&&iB v.view who
def vc(v:VoteT)(who:Int)(had:BallotT)(c:ChangeT):VoteT:=
 if decide (0<had.round)&&BC v.best had then {v with vowed:=ig .i64 v.vowed (cV who),best:=had,change:=c}else {v with vowed:=ig .i64 v.vowed (cV who)}
def eJ(v:VoteT)(who:Int)(b had:BallotT)(c:ChangeT):VoteT×Bool:=
 if v.putting|| !nb v who b then(v,false)else({vc v who had c with putting:=gA v.view (ig .i64 v.vowed (cV who))},gA v.view (ig .i64 v.vowed (cV who)))
def gn(v:VoteT)(who:Int)(b:BallotT):VoteT×Bool:=
 if !v.putting|| !nb v who b then(v,false)else({v with took:=ig .i64 v.took (cV who)},gA v.view (ig .i64 v.took (cV who)))
def nZ(x:RowT)(who v:Int)(l:Vector CellT 4):RowT:=if h:cy who=true then {x with heir:=x.heir.set who.toNat v (fi h),left:=x.left.set who.toNat l (fi h)}else x
def wy(x:RowT)(who:Int):Vector CellT 4:=if h:cy who=true then x.left[who.toNat]'(fi h)else RowT.zero.cells
def m6(who:Int)(dead:RowT)(x:RowT)(i:Nat):RowT:=if((i:Nat):Int)≠who∧0<fM dead ((i:Nat):Int)∧fM x ((i:Nat):Int)=0 then nZ x ((i:Nat):Int) (fM dead ((i:Nat):Int)) (wy dead ((i:Nat):Int))else x
def nG(x:RowT)(who:Int)(dead:RowT)(k:Nat):RowT:=(List.range k).foldl (m6 who dead) (nZ x who (gm (dead.version+1)) dead.cells)
def dH(x:RowT)(who:Int)(dead:RowT):RowT×Int:=
 if !cy who then(.zero,5)else if 0<fM x who then(.zero,8)else({nG x who dead 5 with version:=gm ((nG x who dead 5).version+1)},0)
def qz(s:MS δ)(who:Int):Int:=if h:cy who=true then s.told[who.toNat]'(fi h)else 0
def nd(s:MS δ)(who:Int):RowT:=if h:cy who=true then s.last[who.toNat]'(fi h)else .zero
def A2{α:Type}(v:Vector α 5)(w:Int)(x:α):Vector α 5:=if h:cy w=true then v.set w.toNat x (fi h)else v
def lr(s:MS δ)(who:Int)(y:RowT):MS δ:= {s with last:=if qz s who=0∨(nd s who).version<y.version then A2 s.last who y else s.last}
def vd(s:MS δ)(from' who:Int)(y:RowT):MS δ:= {lr s who y with told:=A2 s.told who (ig .i64 (qz s who) (cV from'))}
def vg(s:MS δ)(who w:Int):Bool:=decide ((qz s who).fdiv (2^min w.toNat IntKind.i64.bits)%2=1)
def BZ(s:MS δ)(i:Nat):Bool:=decide (lv s.view ((i:Nat):Int)=some s.id)&&decide (fM s.own ((i:Nat):Int)≤0)
def gV(s:MS δ)(k:Nat):List Int:=((List.range k).filter (BZ s)).map λi:Nat=>((i:Nat):Int)
def bE(s:MS δ):List Int:=gV s 5
def uN(s:MS δ):Bool:=(bE s).all λi=>(gL i).all λw=>vg s i w
def pA(s:MS δ)(l:List Int):RowT:=l.foldl (λx i=>if 0<fM x i then x else(dH x i (nd s i)).1) s.own
def jJ(v:ViewT):MsgT:= {MsgT.zero with kind:=7,view:=v}
def n4(i:Int)(v:ViewT):MsgT:= {MsgT.zero with kind:=8,whose:=i,view:=v}
def fx(ep:Int)(b:BallotT):MsgT:= {MsgT.zero with kind:=3,epoch:=ep,ballot:=b}
def kr(ep:Int)(b had:BallotT)(c:ChangeT):MsgT:= {MsgT.zero with kind:=4,epoch:=ep,ballot:=b,had:=had,change:=c}
def iK(ep:Int)(b:BallotT)(c:ChangeT):MsgT:= {MsgT.zero with kind:=5,epoch:=ep,ballot:=b,change:=c}
def ju(ep:Int)(b:BallotT):MsgT:= {MsgT.zero with kind:=6,epoch:=ep,ballot:=b}
def gQ(ep:Int)(b:BallotT):RecT:= {RecT.zero with kind:=3,epoch:=ep,ballot:=b}
def lY(ep:Int)(b:BallotT)(c:ChangeT):RecT:= {RecT.zero with kind:=4,epoch:=ep,ballot:=b,change:=c}
def de(s:MS δ)(n:Int):MS δ:= {s with round:=n}
def kZ(s:MS δ)(v:VoteT):MS δ:= {s with vote:=some v}
def w7(s:MS δ)(a:AccT):MS δ:= {s with acc:=a}
variable (K:Dk δ)
def iA(s:MS δ)(l:List SaidT):MS δ:= {s with o:=if K.dn s.e then s.o else s.o++l}
def Da(s:MS δ)(to':Int)(m:MsgT):MS δ:=iA K s [⟨to',m⟩]
theorem po(s:MS δ):iA K s []=s:=by
 unfold iA;rw[a8,ite_self]
theorem Hs(s:MS δ)(a b:List SaidT):iA K (iA K s a) b=iA K s (a++b):=by
 unfold iA
 by_cases h:K.dn s.e=true<;>simp[h]
def m4(f:MS δ→MS δ)(s:MS δ)(to':Int)(m:MsgT):MS δ:=if to'=s.id then f s else Da K s to' m
def dZ(s:MS δ)(r:RecT):MS δ:= {s with e:=(K.pt s.e (jX r)).1}
def rT(s:MS δ)(r:RecT):Int:=(K.pt s.e (jX r)).2
def dA(s:MS δ)(op err val:Int):MS δ:= {s with replies:=s.replies++[⟨op,err,val⟩]}
def fk(s:MS δ):MS δ:=iA K s (pg (s.rep .nil))
def nA(id:Int)(m:MsgT)(p:Nat→Bool)(k:Nat):List SaidT:=((List.range k).filter λi:Nat=> !decide (((i:Nat):Int)=id)&&p i).map λi:Nat=>⟨((i:Nat):Int),m⟩
theorem iq(id:Int)(m:MsgT)(p:Nat→Bool)(k:Nat):nA id m p (k+1)=nA id m p k++(if((k:Nat):Int)≠id∧p k=true then [⟨((k:Nat):Int),m⟩]else []):=by
 unfold nA;rw[cC,List.filter_append,el]
 by_cases h:((k:Nat):Int)=id<;>by_cases h2:p k=true<;>simp[h,h2]
def mi(s:MS δ)(y:RowT):MS δ:=iA K s (nA s.id (rW s.id y) (λ_=>true) 5)
def nr(s:MS δ)(v:ViewT):MS δ:=iA K s (nA s.id (jJ v) (λ_=>true) 5)
def tZ(s:MS δ)(x:RowT)(op:Int):MS δ:= {s with own:=x,busy:=true,kept:=0,waits:=op}
def eS(s:MS δ)(x:RowT)(op:Int):MS δ×Int:=if rT K s (kn x)≠0 then(dZ K s (kn x),rT K s (kn x))else(fk K (tZ (dZ K s (kn x)) x op),0)
def mN(s:MS δ):MS δ:=if s.busy||decide ((bE s).length=0)then s else if uN s then(eS K s (pA s (bE s)) 0).1 else s
def gD(s:MS δ):MS δ:= {s with busy:=false,book:=(eH s.book s.id s.own).1}
def lR(s:MS δ):MS δ:= {s with replies:=if 0<s.waits then s.replies++[⟨s.waits,0,0⟩]else s.replies,waits:=if 0<s.waits then 0 else s.waits}
theorem ya{s:MS δ}(h:0<s.waits):lR s= {dA s s.waits 0 0 with waits:=0}:=by unfold lR;rw[if_pos h,if_pos h];rfl
theorem yb{s:MS δ}(h: ¬0<s.waits):lR s=s:=by unfold lR;rw[if_neg h,if_neg h]
def lw(s:MS δ):MS δ:=mN K (mi K (lR (gD s)) s.own)
def kP(s:MS δ)(from' ver:Int):Bool:=s.busy&&(decide (ver=s.own.version)&&decide (from'∈gL s.id))
def wF(s:MS δ):Bool:=(gL s.id).all λw=> !Ak s.kept w
def iz(s:MS δ)(from':Int):MS δ:= {s with kept:=ig .i64 s.kept (cV from')}
def dF(s:MS δ)(from':Int)(m:MsgT):MS δ:=if kP s from' m.version then(if wF (iz s from')then lw K (iz s from')else iz s from')else s
def E9(s:MS δ)(w:Int)(y:RowT):MS δ:= {s with book:=(eH s.book w y).1}
def ix(s:MS δ)(w:Int)(y:RowT):MS δ:= {s with mirror:=(l6 s.mirror w y).1}
def iI(s:MS δ)(from':Int)(m:MsgT):MS δ:=
 if m.whose≠from'∨fw s.mirror m.whose=true then s
 else if ln s.mirror m.whose m.row then(if rT K s (jU m.whose m.row)≠0 then dZ K s (jU m.whose m.row)else Da K (ix (dZ K s (jU m.whose m.row)) m.whose m.row) from' (se (cJ (ix (dZ K s (jU m.whose m.row)) m.whose m.row).mirror m.whose).version))
 else Da K s from' (se (cJ s.mirror m.whose).version)
def fX(s:MS δ)(from':Int)(m:MsgT):MS δ:=mN K (if from'∈gL m.whose then vd s from' m.whose m.row else s)
def lL(s:MS δ)(w:Int):MS δ:= {s with mirror:=nE s.mirror w}
def fu(s:MS δ)(from' w:Int):MS δ:=
 let back:=λs:MS δ=>m4 K (λs=>fX K s s.id (gS w (cJ s.mirror w))) s from' (gS w (cJ s.mirror w))
 if lv s.view w≠some from' then s
 else if fw s.mirror w then back s
 else if rT K s (ja w)≠0 then dZ K s (ja w)else back (lL (dZ K s (ja w)) w)
def gW(s:MS δ)(i w:Int):MS δ:=if vg s i w then s else m4 K (λs=>fu K s s.id i) s w (n4 i s.view)
def pK(s:MS δ)(i:Int):MS δ:=gW K (gW K s i ((i+1)%5)) i ((i+2)%5)
def fW(l:List Int)(s:MS δ):MS δ:=l.foldl (pK K) s
def qW(s:MS δ):MS δ:=fW K (bE s) s
def mL(s:MS δ)(v:ViewT):MS δ:= {s with view:=v,acc:= {AccT.zero with epoch:=v.epoch},vote:=none,round:=0}
def p5(s:MS δ)(v:ViewT):Bool:=decide (s.view.epoch<v.epoch)&&decide (rT K s (kR v)=0)
def hO(s:MS δ)(v:ViewT):MS δ:=if v.epoch≤s.view.epoch then s else if rT K s (kR v)≠0 then dZ K s (kR v)else qW K (mL (dZ K s (kR v)) v)
def mj(s:MS δ)(from':Int)(m:MsgT):MS δ:=fu K (hO K s m.view) from' m.whose
def kX(s:MS δ)(c:ChangeT):MS δ:=if(dL s.view c).2≠0 then s else if p5 K s (dL s.view c).1 then nr K (hO K s (dL s.view c).1) (dL s.view c).1 else hO K s (dL s.view c).1
def eL(f:MS δ→MS δ)(s:MS δ)(from':Int)(m:MsgT):MS δ:=
 if m.epoch<s.view.epoch then(if m.kind=3∨m.kind=5 then Da K s from' (jJ s.view)else s)
 else if s.view.epoch<m.epoch∨iB s.view s.id=false then s
 else f (de s (max s.round m.ballot.round))
def k8(from':Int)(m:MsgT)(s:MS δ):MS δ:=match s.vote with
 |none=>s
 |some vt=>if(gn vt from' m.ballot).2 then kX K (kZ s (gn vt from' m.ballot).1) vt.change else(kZ s (gn vt from' m.ballot).1)
def qD(s:MS δ)(from':Int)(m:MsgT):MS δ:=eL K (k8 K from' m) s from' m
def nz(from':Int)(m:MsgT)(s:MS δ):MS δ:=m4 K (λs=>qD K s s.id (ju m.epoch m.ballot)) s from' (ju m.epoch m.ballot)
def oC(from':Int)(m:MsgT)(s:MS δ):MS δ:=
 if(dL s.view m.change).2≠0 then s else if(gp s.acc m.epoch m.ballot m.change).2=false then s
 else if(gp s.acc m.epoch m.ballot m.change).1.flat≠s.acc.flat then(if rT K s (lY m.epoch m.ballot m.change)≠0 then dZ K s (lY m.epoch m.ballot m.change)else nz K from' m (w7 (dZ K s (lY m.epoch m.ballot m.change)) (gp s.acc m.epoch m.ballot m.change).1))
 else nz K from' m s
def sR(s:MS δ)(from':Int)(m:MsgT):MS δ:=eL K (oC K from' m) s from' m
def jq(s:MS δ)(m:MsgT):MS δ:=iA K s (nA s.id m (λi=>iB s.view ((i:Nat):Int)) 5)
def jw(f:MS δ→MsgT→MS δ)(s:MS δ)(m:MsgT):MS δ:=if iB s.view s.id then f (jq K s m) m else jq K s m
def ku(s:MS δ)(vt:VoteT):MS δ:=jw K (λs m=>sR K s s.id m) s (iK s.view.epoch vt.ballot vt.change)
def pa(from':Int)(m:MsgT)(s:MS δ):MS δ:=match s.vote with
 |none=>s
 |some vt=>if(eJ vt from' m.ballot m.had m.change).2 then ku K (kZ s (eJ vt from' m.ballot m.had m.change).1) (eJ vt from' m.ballot m.had m.change).1 else(kZ s (eJ vt from' m.ballot m.had m.change).1)
def qF(s:MS δ)(from':Int)(m:MsgT):MS δ:=eL K (pa K from' m) s from' m
def nM(from':Int)(m:MsgT)(a:AccT)(s:MS δ):MS δ:=m4 K (λs=>qF K s s.id (kr m.epoch m.ballot a.had a.change)) s from' (kr m.epoch m.ballot a.had a.change)
def pN(from':Int)(m:MsgT)(s:MS δ):MS δ:=
 if(bV s.acc m.epoch m.ballot).2=false then s
 else if(bV s.acc m.epoch m.ballot).1.vow.flat≠s.acc.vow.flat then(if rT K s (gQ m.epoch m.ballot)≠0 then dZ K s (gQ m.epoch m.ballot)else nM K from' m (bV s.acc m.epoch m.ballot).1 (w7 (dZ K s (gQ m.epoch m.ballot)) (bV s.acc m.epoch m.ballot).1))
 else nM K from' m (bV s.acc m.epoch m.ballot).1 s
def sS(s:MS δ)(from':Int)(m:MsgT):MS δ:=eL K (pN K from' m) s from' m
def mC(s:MS δ)(vt:VoteT):MS δ:=jw K (λs m=>sS K s s.id m) s (fx s.view.epoch vt.ballot)
def oD(s:MS δ)(vt:VoteT):MS δ:=if vt.putting then ku K s vt else mC K s vt
def eC(s:MS δ):BallotT:=⟨gm (s.round+1),s.id⟩
def qZ(s:MS δ)(c:ChangeT):MS δ:=kZ (de (w7 (dZ K s (gQ s.view.epoch (eC s))) (bV s.acc s.view.epoch (eC s)).1) (eC s).round) (jO s.view (eC s) c)
def cG(s:MS δ)(c:ChangeT):MS δ×Int:=
 if(bV s.acc s.view.epoch (eC s)).2=false then(s,6)else if rT K s (gQ s.view.epoch (eC s))≠0 then(dZ K s (gQ s.view.epoch (eC s)),rT K s (gQ s.view.epoch (eC s)))else(qZ K s c,0)
def fK(s:MS δ)(c:ChangeT):Int:=if(dL s.view c).2=0∧s.vote.isSome=true then 8 else(dL s.view c).2
def dW(s:MS δ)(op:Int)(c:ChangeT):MS δ×Int:=
 if fK s c≠0 then(dA s op (fK s c) 0,fK s c)
 else if(cG K s c).2≠0 then(dA (cG K s c).1 op (cG K s c).2 0,(cG K s c).2)
 else(oD K (dA (cG K s c).1 op 0 0) (jO s.view (eC s) c),0)
def db(s:MS δ)(o:OpT):RowT×Int×Int:=j0 (s.rep .nil) o
def bQ(s:MS δ):MS δ:= {s with ops:=gm (s.ops+1)}
def ow(s:MS δ)(o:OpT):MS δ×Int:=
 if(db s o).2.2≠0∨o.kind=3 then(dA s s.ops (db s o).2.2 (db s o).2.1,(db s o).2.2)
 else if(eS K s (db s o).1 s.ops).2≠0 then(dA (eS K s (db s o).1 s.ops).1 s.ops (eS K s (db s o).1 s.ops).2 0,(eS K s (db s o).1 s.ops).2)
 else((eS K s (db s o).1 s.ops).1,0)
def cj(s:MS δ)(o:OpT):MS δ×Int:=if iB s.view s.id&&decide (o.kind=4)then dW K (bQ s) (bQ s).ops o.change else ow K (bQ s) o
def gk(s:MS δ)(from':Int)(m:MsgT):MS δ:=
 if m.kind=0 then iI K s from' m else if m.kind=1 then dF K s from' m else if m.kind=2 then E9 s m.whose m.row
 else if m.kind=7 then hO K s m.view else if m.kind=8 then mj K s from' m else if m.kind=9 then fX K s from' m
 else if m.kind=3 then sS K s from' m else if m.kind=4 then qF K s from' m else if m.kind=5 then sR K s from' m else if m.kind=6 then qD K s from' m else s
def bX(s:MS δ):MS δ:=qW K (mN K (if s.busy=true then fk K s else s))
def ck(s:MS δ):MS δ:=if 1<s.view.epoch then nr K s s.view else s
def fY(s:MS δ):MS δ:=if 0< (cv s.book s.id).version then mi K s (cv s.book s.id)else s
def rD(s:MS δ):MS δ:=match s.vote with
 |none=>s
 |some vt=>if(dL s.view vt.change).2=0 then(if(cG K s vt.change).2=0 then oD K (cG K s vt.change).1 (jO s.view (eC s) vt.change)else(cG K s vt.change).1)else s
def iw(s:MS δ):MS δ:=if iB (ck K (bX K s)).view (ck K (bX K s)).id then rD K (fY K (ck K (bX K s)))else ck K (bX K s)
def jl(s:MS δ)(m:RecT):MS δ:=
 if m.kind=0 then {s with own:=m.row,busy:=true,kept:=0}
 else if m.kind=1 then ix s m.whose m.row
 else if m.kind=2 then lL s m.whose
 else if m.kind=3 then {s with acc:= {s.acc with vow:=m.ballot},round:=max s.round m.ballot.round}
 else if m.kind=4 then {s with acc:= {s.acc with vow:=m.ballot,had:=m.ballot,change:=m.change},round:=max s.round m.ballot.round}
 else if m.kind=5 then mL s m.view
 else s
def lh:List (List UInt8)→MS δ→Option (MS δ)
 | [],s=>some s
 |b::bs,s=>if(nI b).2≠0 then none else lh bs (jl s (nI b).1)
def Eo(id:Int)(e:δ):MS δ:=⟨id, .zero, .zero, .zero, .zero,0,none, .zero,false,0,0,0,[], #v[0,0,0,0,0], #v[RowT.zero,RowT.zero,RowT.zero,RowT.zero,RowT.zero],e,[]⟩
def zI(id:Int)(e:δ):MS δ:=mL (Eo id e) firstV
theorem FS{ls:List (List UInt8)}{k:Nat}{s:MS δ}(h:k<ls.length)(g:(nI ls[k]).2≠0):lh (ls.drop k) s=none:=by
 rw[di h,lh,if_pos g]
theorem HA{ls:List (List UInt8)}{k:Nat}{s:MS δ}(h:k<ls.length)(g: ¬(nI ls[k]).2≠0):lh (ls.drop k) s=lh (ls.drop (k+1)) (jl s (nI ls[k]).1):=by
 rw[di h,lh,if_neg g]
end Api
end

section
namespace Api
open Go Leg Codec Dsk Wal
theorem BX(m:RecT):(jX m).length≤3000:=by
 have h1:=hY m.row;have h2:=aY m.ballot.flat;have h4:=aY m.change.flat;have h5:=aY m.view.flat;have h6:=aY [m.kind,m.whose];have h8:=aY [m.kind,m.epoch];have h9:=aY [m.kind];simp only[BallotT.flat,ChangeT.flat,ViewT.flat,aw,az,aB]at h2 h4 h5 h6 h8 h9;unfold jX
 repeat' split
 all_goals first|omega| (simp only[ag,BallotT.flat,ChangeT.flat,ViewT.flat,az];omega)
abbrev yY(n:Int):Prop:= -9223372036854775808≤n∧n<9223372036854775808
theorem ox{n:Int}(h:yY n):(Lit.int .i64 n).wf=true:=by
 have m1:IntKind.i64.min= -9223372036854775808:=by decide
 have m2:IntKind.i64.max=9223372036854775807:=by decide
 simp only[Lit.wf,m1,m2,au,decide_eq_true_eq];omega
theorem mY(n:Int):yY (gm n):=by
 unfold gm yY;simp only[IntKind.wrap,IntKind.bits,IntKind.signed];simp;omega
structure CW(c:CellT):Prop where
 inn:yY c.inn
 out:yY c.out
 given: ∀(j:Nat) (h:j<5),yY c.given[j]
class OkRow(y:RowT):Prop where
 version:yY y.version
 cells: ∀(k:Nat) (h:k<4),CW y.cells[k]
 heir: ∀(i:Nat) (h:i<5),yY y.heir[i]
 left: ∀(i k:Nat) (h:i<5) (g:k<4),CW y.left[i][k]
theorem rr{α:Type}{n:Nat}{v:Vector α n}{x:α}(h:x∈v.toList): ∃(j:Nat) (h:j<n),x=v[j]:=by
 obtain⟨j,hj,rfl⟩:=fV h;rw[aB]at hj;exact⟨j,hj,by simp⟩
theorem ER{α:Type}{n:Nat}(v:Vector α n)(j:Nat)(h:j<n):v[j]∈v.toList:=by simp
theorem x9{m:Nat}{v:Vector CellT m}(h: ∀(k:Nat) (h:k<m),CW v[k]):WF (bR v.toList):=λn hn=>by
 obtain⟨c,hc,hn⟩:=jG.1 hn;obtain⟨k,hk,rfl⟩:=rr hc;simp only[CellT.flat,bT]at hn;rcases hn with rfl|rfl|hn
 · exact ox (h k hk).inn
 · exact ox (h k hk).out
 · obtain⟨j,hj,rfl⟩:=rr hn
   exact ox ((h k hk).given j hj)
theorem OkRow.wf{x:RowT}(h:OkRow x):WF x.flat:=λn hn=>by
 simp only[RowT.flat,bT,fz]at hn;rcases hn with rfl|hn|hn|hn
 · exact ox h.version
 · exact x9 h.cells n hn
 · obtain⟨j,hj,rfl⟩:=rr hn
   exact ox (h.heir j hj)
 · obtain⟨v,hv,hn⟩:=jG.1 hn
   obtain⟨j,hj,rfl⟩:=rr hv;exact x9 (λk hk=>h.left j k hj hk) n hn
abbrev IP:= @OkRow.wf
theorem CW.of{m:Nat}{v:Vector CellT m}(h:WF (bR v.toList))(k:Nat)(hk:k<m):CW v[k]:=by
 have q: ∀n∈v[k].flat,yY n:=λn hn=>Ep (h n (jG.2 ⟨_,ER v k hk,hn⟩))
 exact⟨q _ (by simp[CellT.flat]),q _ (by simp[CellT.flat]),λj hj=>q _ (by simp[CellT.flat])⟩
theorem OkRow.of{x:RowT}(h:WF x.flat):OkRow x:=
 ⟨Ep (h _ (by simp[RowT.flat])),CW.of λn hn=>h n (by simp[RowT.flat,hn]),λi hi=>Ep (h _ (by simp[RowT.flat])),
  λi k hi hk=>CW.of (λn hn=>h n (by simp only[RowT.flat,bT,fz,jG];exact .inr (.inr (.inr ⟨_,ER x.left i hi,hn⟩)))) k hk⟩
class OkVw(v:ViewT):Prop where
 rng:Rng v
 wf:WF v.flat
class OkVt(v:VoteT):Prop where
 view:OkVw v.view
 ballot:WF v.ballot.flat
 change:WF v.change.flat
 best:WF v.best.flat
class OkMg(m:MsgT):Prop where
 row:OkRow m.row
 view:OkVw m.view
 ballot:WF m.ballot.flat
 had:WF m.had.flat
 change:WF m.change.flat
variable {δ:Type}
class OkR(K:outParam (Dk δ))(s:MS δ):Prop where
 e:K.ok s.e
 id:cy s.id=true
 view:OkVw s.view
 own:OkRow s.own
 mir: ∀(i:Nat) (h:i<5),OkRow s.mirror.rows[i]
 book: ∀(i:Nat) (h:i<5),OkRow s.book.rows[i]
 last: ∀(i:Nat) (h:i<5),OkRow s.last[i]
 acc:WF s.acc.flat
 vote: ∀vt,s.vote=some vt→OkVt vt
variable {K:Dk δ}
instance OkRow.zero:OkRow RowT.zero:=OkRow.of tame_rzero.wf
theorem CW.zero:CW .zero:=⟨by decide,by decide,λj hj=>by
 match j,hj with
 |0,_|1,_|2,_|3,_|4,_=>exact⟨(by decide:(-9223372036854775808:Int)≤0),(by decide:(0:Int)<9223372036854775808)⟩⟩
instance {s:MS δ}[h:OkR K s]:OkRow s.own:=h.own
instance {s:MS δ}[h:OkR K s]:OkVw s.view:=h.view
instance {m:MsgT}[h:OkMg m]:OkRow m.row:=h.row
instance {m:MsgT}[h:OkMg m]:OkVw m.view:=h.view
theorem nU{α:Type}{n:Nat}{p:α→Prop}{v:Vector α n}{i:Nat}(hi:i<n){x:α}(h: ∀(j:Nat) (hj:j<n),p v[j])(hx:p x)(j:Nat)(hj:j<n):p (v.set i x hi)[j]:=by
 rw[Vector.getElem_set];split
 · exact hx
 · exact h j hj
instance {s:MS δ}[h:OkR K s](w:Int):OkRow (cJ s.mirror w):=by unfold cJ;split;exact h.mir _ _;exact .zero
instance {s:MS δ}[h:OkR K s](w:Int):OkRow (cv s.book w):=by unfold cv;split;exact h.book _ _;exact .zero
instance {s:MS δ}[h:OkR K s](w:Int):OkRow (nd s w):=by unfold nd;split;exact h.last _ _;exact .zero
theorem tt{x:RowT}[h:OkRow x](key:Int):CW (dC x key):=by unfold dC;split;exact h.cells _ _;exact .zero
theorem Gy{x:RowT}[h:OkRow x](i:Int):yY (fM x i):=by unfold fM;split;exact h.heir _ _;exact⟨by decide,by decide⟩
theorem Gn{x:RowT}[h:OkRow x](i:Int)(k:Nat)(hk:k<4):CW (wy x i)[k]:=by unfold wy;split;exact h.left _ _ _ _;exact OkRow.zero.cells k hk
theorem wm{x:RowT}[h:OkRow x]{key n counts:Int}{c:CellT}(hc:CW c):OkRow (lm x key n counts c).1:=by
 unfold lm;split
 · exact .zero
 · refine⟨mY _,λk hk=>?_,λi hi=>?_,λi k hi hk=>?_⟩
   · show CW (kT x key c).cells[k]
     unfold kT;split
     · exact nU (p:=CW) (zQ (by assumption)) h.cells hc k hk
     · exact h.cells k hk
   · show yY (kT x key c).heir[i]
     unfold kT;split<;>exact h.heir i hi
   · show CW (kT x key c).left[i][k]
     unfold kT;split<;>exact h.left i k hi hk
instance {x:RowT}[OkRow x](key n:Int):OkRow (pp x key n).1:=by
 unfold pp;split
 · have:=tt (x:=x) key
   exact wm ⟨mY _,this.out,this.given⟩
 · exact .zero
instance {x:RowT}[OkRow x](key n:Int):OkRow (pq x key n).1:=by
 unfold pq;split
 · have:=tt (x:=x) key
   exact wm ⟨this.inn,mY _,this.given⟩
 · exact .zero
instance {x:RowT}[OkRow x](key n to':Int):OkRow (l4 x key n to').1:=by
 unfold l4;split
 · have:=tt (x:=x) key
   refine wm ?_;unfold wE;split
   · exact⟨this.inn,this.out,nU (p:=yY) (fi (by assumption)) this.given (mY _)⟩
   · exact this
 · exact .zero
theorem vA{x:RowT}(h:OkRow x){w v:Int}{l:Vector CellT 4}(hv:yY v)(hl: ∀(k:Nat) (h:k<4),CW l[k]):OkRow (nZ x w v l):=by
 unfold nZ;split
 · exact⟨h.version,h.cells,nU (p:=yY) (fi (by assumption)) h.heir hv,λi k hi hk=>nU (p:=λu:Vector CellT 4=>CW u[k]) (fi (by assumption)) (λj hj=>h.left j k hj hk) (hl k hk) i hi⟩
 · exact h
instance {x d:RowT}[h:OkRow x][g:OkRow d](who:Int):OkRow (dH x who d).1:=by
 have q: ∀k,OkRow (nG x who d k):=λk=>by
  induction k with
  |zero=>exact vA h (mY _) g.cells
  |succ k ih=>
   have e:nG x who d (k+1)=m6 who d (nG x who d k) k:=by unfold nG;rw[cC,eN];rfl
   rw[e];unfold m6;split
   · exact vA ih (Gy _) (Gn _)
   · exact ih
 unfold dH;split
 · exact .zero
 split
 · exact .zero
 · exact⟨mY _,(q 5).cells,(q 5).heir,(q 5).left⟩
instance {s:MS δ}[h:OkR K s](l:List Int):OkRow (pA s l):=by
 have: ∀(l:List Int) (x:RowT),OkRow x→OkRow (l.foldl (λx i=>if 0<fM x i then x else(dH x i (nd s i)).1) x):=λl=>by
  induction l with
  |nil=>exact λx hx=>hx
  |cons i l ih=>exact λx hx=>ih _ (by dsimp only;split;exact hx;exact inferInstance)
 exact this l _ h.own
instance {s:MS δ}[h:OkR K s](o:OpT):OkRow (db s o).1:=by
 have:OkRow (gU (s.rep .nil) o).1:=by
  unfold gU
  repeat' split
  all_goals first|exact .zero|exact inferInstanceAs (OkRow (pp s.own _ _).1)|exact inferInstanceAs (OkRow (pq s.own _ _).1)|exact inferInstanceAs (OkRow (l4 s.own _ _ _).1)
 unfold db j0
 repeat' split
 all_goals first|exact .zero|exact this
theorem wB{l:List Int}{k:Nat}(h:k<l.length):(ints l)[k]?=some (.int .i64 (l.getD k 0)):=by simp[ints,h,List.getD_eq_getElem?_getD]
theorem ol(s:MS δ)(k:Nat):gV s (k+1)=gV s k++(if BZ s k then [((k:Nat):Int)]else []):=by
 unfold gV;rw[cC,List.filter_append,el]
 by_cases h:BZ s k=true<;>simp[h]
theorem vz(b:Int)(k:Nat):kH b (k+1)=kH b k++(if GO b ((k:Nat):Int)then [((k:Nat):Int)]else []):=by
 unfold kH;rw[cC,List.filter_append,el]
 by_cases h:GO b ((k:Nat):Int)=true<;>simp[h]
theorem sW(b:Int)(k:Nat):(kH b k).length≤k:=by
 unfold kH;rw[cb];exact re (oJ _ _) (by simp)
theorem tk{v:ViewT}{w i:Int}(h:(lv v w).isSome=true)(g:(lv v w).getD 0=i):lv v w=some i:=by
 cases q:lv v w with
 |none=>rw[q]at h;cases h
 |some z=>rw[q]at g;rw[←g];rfl
theorem zV{s:MS δ}{k:Nat}(h:BZ s k=true):lv s.view ((k:Nat):Int)=some s.id∧fM s.own ((k:Nat):Int)≤0:=by
 unfold BZ at h;rw[au,decide_eq_true_iff,decide_eq_true_iff]at h;exact h
theorem Ln{s:MS δ}{k:Nat}(h1:(lv s.view ((k:Nat):Int)).isSome=true)(h2:(lv s.view ((k:Nat):Int)).getD 0=s.id)(h3:fM s.own ((k:Nat):Int)≤0):BZ s k=true:=by
 unfold BZ;rw[au,decide_eq_true_iff,decide_eq_true_iff];refine⟨?_,h3⟩;cases q:lv s.view ((k:Nat):Int)with
 |none=>rw[q]at h1;cases h1
 |some z=>rw[q]at h2;rw[←h2];rfl
theorem GF(s:MS δ)(k:Nat):(gV s k).length≤k:=by
 unfold gV;rw[cb];exact re (oJ _ _) (by simp)
theorem Lj{x d:RowT}{who:Int}(h:cy who=true)(h2: ¬0<fM x who):(dH x who d).2=0:=by
 rw[dH,h,if_neg (by decide),if_neg h2]
theorem Cd(K:Dk δ){l:List Int}{q:Nat}(h:q<l.length)(s:MS δ):fW K (l.take (q+1)) s=pK K (fW K (l.take q) s) (l.getD q 0):=by
 unfold fW;rw[bF h,eN,List.getD_eq_getElem?_getD,List.getElem?_eq_getElem h];rfl
theorem tY(s:MS δ){l:List Int}{q:Nat}(h:q<l.length):pA s (l.take (q+1))=(if 0<fM (pA s (l.take q)) (l.getD q 0)then pA s (l.take q)else(dH (pA s (l.take q)) (l.getD q 0) (nd s (l.getD q 0))).1):=by
 unfold pA;rw[bF h,eN,List.getD_eq_getElem?_getD,List.getElem?_eq_getElem h];rfl
theorem wN{s:MS δ}{i:Int}(h:i∈bE s):cy i=true∧lv s.view i=some s.id∧fM s.own i≤0:=by
 unfold bE gV at h;rw[fT]at h;obtain⟨k,hk,rfl⟩:=h;rw[List.mem_filter,dO]at hk;have h2:=hk.2;unfold BZ at h2;rw[au,decide_eq_true_iff,decide_eq_true_iff]at h2;exact⟨decide_eq_true ⟨by omega,by omega⟩,h2.1,h2.2⟩
theorem gx(x:RowT){k:Nat}(h:k<5):fM x ((k:Nat):Int)=x.heir[k]:=by
 rw[fM,dif_pos (show cy ((k:Nat):Int)=true from decide_eq_true ⟨by omega,by omega⟩)];rfl
theorem G4(w:Int):(gL w).length≤1000000:=by unfold gL;split<;>simp
theorem ES{k:Nat}(h:k<5):cy ((k:Nat):Int)=true:=decide_eq_true ⟨by omega,by omega⟩
theorem Gp(x:RowT){k:Nat}(h:k<5):wy x ((k:Nat):Int)=x.left[k]:=by
 rw[wy,dif_pos (ES h)];rfl
theorem C6(x:RowT){k:Nat}(h:k<5)(v:Int)(l:Vector CellT 4):nZ x ((k:Nat):Int) v l= {x with heir:=x.heir.set k v h,left:=x.left.set k l h}:=by
 rw[nZ,dif_pos (ES h)];rfl
theorem oi(x:RowT)(who:Int)(dead:RowT)(k:Nat):nG x who dead (k+1)=m6 who dead (nG x who dead k) k:=by unfold nG;rw[cC,eN];rfl
instance OkVw.first:OkVw firstV:=⟨Cw,λn hn=>by
 have h:n∈[(1:Int),7,0,0,0,0,0]:=hn;simp only[bT,List.not_mem_nil,or_false,or_self]at h
 rcases h with rfl|rfl|rfl<;>decide⟩
instance OkVw.zero:OkVw ViewT.zero:=⟨Rng.zero,λn hn=>by
 have h:n∈[(0:Int),0,0,0,0,0,0]:=hn;simp only[bT,List.not_mem_nil,or_false,or_self]at h
 rcases h with rfl;decide⟩
theorem CJ{v:ViewT}(h1:yY v.epoch)(h2:yY v.members)(hr:Rng v):WF v.flat:=λn hn=>by
 simp only[ViewT.flat,bT]at hn;rcases hn with rfl|rfl|hn
 · exact ox h1
 · exact ox h2
 · obtain⟨j,hj,rfl⟩:=rr hn
   have:=hr j hj;exact ox ⟨by omega,by omega⟩
theorem rh(n:Int):yY (IntKind.i64.wrap n):=mY n
instance OkVw.next{v:ViewT}[h:OkVw v](c:ChangeT):OkVw (dL v c).1:=by
 unfold dL;split
 · exact .zero
 split
 · split
   · exact .zero
   · exact⟨h.rng,CJ (rh _) (rh _) h.rng⟩
 split
 · split
   · exact .zero
   · have hr:Rng ⟨IntKind.i64.wrap (v.epoch+1),mc .i64 v.members (2^c.who.toNat),qS v c⟩:=λi hi=>by
      show 0≤(qS v c)[i]∧(qS v c)[i]≤5;unfold qS;rw[Vector.getElem_mapIdx];unfold th;split
      · have hm:cy c.heir=true:=by
         rename_i q _ _ _ _;simp only[Ly,Bool.not_eq_true',not_or,Bool.not_eq_false]at q;exact q.2
        have hm2:0≤c.heir∧c.heir<5:=of_decide_eq_true hm;omega
      · exact h.rng i hi
     exact⟨hr,CJ (rh _) (rh _) hr⟩
 · exact .zero
theorem IC{b:BallotT}(h1:yY b.round)(h2:yY b.who):WF b.flat:=λn hn=>by
 have h:n∈[b.round,b.who]:=hn;simp only[bT,List.not_mem_nil,or_false]at h;rcases h with rfl|rfl
 · exact ox h1
 · exact ox h2
theorem gH:WF BallotT.zero.flat:=IC (by decide) (by decide)
theorem oM:WF ChangeT.zero.flat:=λn hn=>by
 have h:n∈[(0:Int),0,0]:=hn;simp only[bT,List.not_mem_nil,or_false,or_self]at h;rcases h with rfl;decide
instance OkMg.sealed(w:Int)(y:RowT)[h:OkRow y]:OkMg (gS w y):=⟨h, .zero,gH,gH,oM⟩
instance OkMg.sealW(w:Int)(v:ViewT)[h:OkVw v]:OkMg (n4 w v):=⟨.zero,h,gH,gH,oM⟩
section
variable {s:MS δ}
instance [h:OkR K s](l:List SaidT):OkR K (iA K s l):=⟨h.e,h.id,h.view,h.own,h.mir,h.book,h.last,h.acc,h.vote⟩
instance {p:Prop}[Decidable p]{a b:MS δ}[ha:OkR K a][hb:OkR K b]:OkR K (if p then a else b):=by split;exact ha;exact hb
instance {f:MS δ→MS δ}{t:Int}{m:MsgT}[h:OkR K s][hf:OkR K (f s)]:OkR K (m4 K f s t m):=by
 unfold m4;split
 · exact hf
 · exact⟨h.e,h.id,h.view,h.own,h.mir,h.book,h.last,h.acc,h.vote⟩
instance [h:OkR K s](t:Int)(m:MsgT):OkR K (Da K s t m):=inferInstanceAs (OkR K (iA K s _))
instance [h:OkR K s](r:RecT):OkR K (dZ K s r):=⟨K.sure _ _ h.e (BX r),h.id,h.view,h.own,h.mir,h.book,h.last,h.acc,h.vote⟩
instance [h:OkR K s](a b c:Int):OkR K (dA s a b c):=⟨h.e,h.id,h.view,h.own,h.mir,h.book,h.last,h.acc,h.vote⟩
instance [h:OkR K s]:OkR K (bQ s):=⟨h.e,h.id,h.view,h.own,h.mir,h.book,h.last,h.acc,h.vote⟩
instance [h:OkR K s](f:Int):OkR K (iz s f):=⟨h.e,h.id,h.view,h.own,h.mir,h.book,h.last,h.acc,h.vote⟩
instance [h:OkR K s]:OkR K (lR s):=⟨h.e,h.id,h.view,h.own,h.mir,h.book,h.last,h.acc,h.vote⟩
theorem yt{b:BookT}{w:Int}{x:RowT}(h: ∀(i:Nat) (h:i<5),OkRow b.rows[i])(hx:OkRow x): ∀(i:Nat) (h:i<5),OkRow (eH b w x).1.rows[i]:=by
 unfold eH;split
 · unfold zB
   split
   · exact nU (p:=OkRow) (fi (by assumption)) h hx
   · exact h
 · exact h
instance OkR.merge[h:OkR K s](w:Int)(x:RowT)[hx:OkRow x]:OkR K (E9 s w x):=⟨h.e,h.id,h.view,h.own,h.mir,yt h.book hx,h.last,h.acc,h.vote⟩
instance [h:OkR K s]:OkR K (gD s):=⟨h.e,h.id,h.view,h.own,h.mir,yt h.book h.own,h.last,h.acc,h.vote⟩
theorem Dv{b:MirT}{w:Int}{x:RowT}(h: ∀(i:Nat) (h:i<5),OkRow b.rows[i])(hx:OkRow x): ∀(i:Nat) (h:i<5),OkRow (l6 b w x).1.rows[i]:=by
 unfold l6;split
 · unfold zO
   split
   · exact nU (p:=OkRow) (fi (by assumption)) h hx
   · exact h
 · exact h
instance [h:OkR K s](w:Int)(x:RowT)[hx:OkRow x]:OkR K (ix s w x):=⟨h.e,h.id,h.view,h.own,Dv h.mir hx,h.book,h.last,h.acc,h.vote⟩
instance [h:OkR K s](w:Int):OkR K (lL s w):=⟨h.e,h.id,h.view,h.own,λi hi=>by
 show OkRow (nE s.mirror w).rows[i]
 unfold nE;split<;>exact h.mir i hi,h.book,h.last,h.acc,h.vote⟩
instance [h:OkR K s](x:RowT)[hx:OkRow x](op:Int):OkR K (tZ s x op):=⟨h.e,h.id,h.view,hx,h.mir,h.book,h.last,h.acc,h.vote⟩
instance [OkR K s]:OkR K (fk K s):=inferInstanceAs (OkR K (iA K s _))
instance [OkR K s](y:RowT):OkR K (mi K s y):=inferInstanceAs (OkR K (iA K s _))
instance [OkR K s](v:ViewT):OkR K (nr K s v):=inferInstanceAs (OkR K (iA K s _))
instance [OkR K s](m:MsgT):OkR K (jq K s m):=inferInstanceAs (OkR K (iA K s _))
instance [OkR K s](x:RowT)[OkRow x](op:Int):OkR K (eS K s x op).1:=by unfold eS;split<;>exact inferInstance
instance [h:OkR K s]:OkR K (mN K s):=by
 unfold mN;split
 · exact h
 split
 · exact inferInstance
 · exact h
instance [OkR K s]:OkR K (lw K s):=by unfold lw;exact inferInstance
instance [h:OkR K s](f:Int)(m:MsgT):OkR K (dF K s f m):=by
 unfold dF
 repeat' split
 all_goals exact inferInstance
instance [h:OkR K s](f:Int)(m:MsgT)[OkMg m]:OkR K (iI K s f m):=by
 unfold iI
 repeat' split
 all_goals exact inferInstance
theorem Jd{v:Vector RowT 5}{w:Int}{x:RowT}(h: ∀(i:Nat) (h:i<5),OkRow v[i])(hx:OkRow x): ∀(i:Nat) (h:i<5),OkRow (A2 v w x)[i]:=by
 unfold A2;split
 · exact nU (p:=OkRow) (fi (by assumption)) h hx
 · exact h
instance [h:OkR K s](w:Int)(x:RowT)[hx:OkRow x]:OkR K (lr s w x):=⟨h.e,h.id,h.view,h.own,h.mir,h.book,by
 show ∀(i:Nat) (h:i<5),OkRow (if qz s w=0∨(nd s w).version<x.version then A2 s.last w x else s.last)[i];split
 · exact Jd h.last hx
 · exact h.last,h.acc,h.vote⟩
instance [OkR K s](f w:Int)(y:RowT)[OkRow y]:OkR K (vd s f w y):=by
 have h:OkR K (lr s w y):=inferInstance;exact⟨h.e,h.id,h.view,h.own,h.mir,h.book,h.last,h.acc,h.vote⟩
instance [h:OkR K s](f:Int)(m:MsgT)[OkMg m]:OkR K (fX K s f m):=by unfold fX;split<;>exact inferInstance
theorem vE[OkR K s]{f:MS δ→MS δ}(hf:OkR K (f s))(t:Int)(m:MsgT):OkR K (m4 K f s t m):=by unfold m4;split;exact hf;exact inferInstance
instance [h:OkR K s](f w:Int):OkR K (fu K s f w):=by
 unfold fu
 repeat' split
 · exact h
 · exact vE inferInstance _ _
 · exact inferInstance
 · exact vE inferInstance _ _
instance [h:OkR K s](i w:Int):OkR K (gW K s i w):=by
 unfold gW;split
 · exact h
 · exact vE inferInstance _ _
instance [OkR K s](i:Int):OkR K (pK K s i):=by unfold pK;exact inferInstance
theorem tn: ∀(l:List Int) (s:MS δ),OkR K s→OkR K (fW K l s)
 | [],_,h=>h
 |i::l,s,h=>tn l (pK K s i) inferInstance
instance [h:OkR K s]:OkR K (qW K s):=tn _ _ h
theorem No(n:Int)(h:yY n):WF ({AccT.zero with epoch:=n}:AccT).flat:=λk hk=>by
 have q:k∈[n,0,0,0,0,0,0,0]:=hk;simp only[bT,List.not_mem_nil,or_false,or_self]at q;rcases q with rfl|rfl
 · exact ox h
 · decide
instance [h:OkR K s](v:ViewT)[hv:OkVw v]:OkR K (mL s v):=⟨h.e,h.id,hv,h.own,h.mir,h.book,h.last,No _ (Ep (hv.wf _ (by simp[ViewT.flat]))),λ_ e=>nomatch e⟩
instance [h:OkR K s](v:ViewT)[OkVw v]:OkR K (hO K s v):=by
 unfold hO
 repeat' split
 all_goals exact inferInstance
instance [h:OkR K s](f:Int)(m:MsgT)[OkMg m]:OkR K (mj K s f m):=by unfold mj;exact inferInstance
instance [h:OkR K s](c:ChangeT):OkR K (kX K s c):=by
 unfold kX
 repeat' split
 all_goals exact inferInstance
class OkAc(a:AccT):Prop where wf:WF a.flat
instance [h:OkR K s]:OkAc s.acc:=⟨h.acc⟩
theorem nl{a b:List Int}(h:WF (a++b)):WF a:=λn hn=>h n (List.mem_append_left _ hn)
theorem sK{a b:List Int}(h:WF (a++b)):WF b:=λn hn=>h n (List.mem_append_right _ hn)
theorem OkAc.vow{a:AccT}(h:OkAc a):WF a.vow.flat:=sK (nl (nl h.wf))
theorem OkAc.had{a:AccT}(h:OkAc a):WF a.had.flat:=sK (nl h.wf)
theorem OkAc.change{a:AccT}(h:OkAc a):WF a.change.flat:=sK h.wf
theorem OkAc.epoch{a:AccT}(h:OkAc a):WF [a.epoch]:=nl (nl (nl h.wf))
theorem OkAc.ask{a:AccT}(h:OkAc a){ep:Int}{b:BallotT}(hb:WF b.flat):OkAc (bV a ep b).1:=by
 unfold bV;split
 · exact h
 · exact⟨lH (lH (lH h.epoch hb) h.had) h.change⟩
theorem OkAc.put{a:AccT}(h:OkAc a){ep:Int}{b:BallotT}{c:ChangeT}(hb:WF b.flat)(hc:WF c.flat):OkAc (gp a ep b c).1:=by
 unfold gp;split
 · exact h
 · exact⟨lH (lH (lH h.epoch hb) hb) hc⟩
instance [h:OkR K s](n:Int):OkR K (de s n):=⟨h.e,h.id,h.view,h.own,h.mir,h.book,h.last,h.acc,h.vote⟩
instance [h:OkR K s](v:VoteT)[hv:OkVt v]:OkR K (kZ s v):=⟨h.e,h.id,h.view,h.own,h.mir,h.book,h.last,h.acc,λ_ e=>dK e▸hv⟩
instance [h:OkR K s](a:AccT)[ha:OkAc a]:OkR K (w7 s a):=⟨h.e,h.id,h.view,h.own,h.mir,h.book,h.last,ha.wf,h.vote⟩
instance {v:VoteT}[h:OkVt v]{m:MsgT}[hm:OkMg m](w:Int):OkVt (eJ v w m.ballot m.had m.change).1:=by
 unfold eJ;split
 · exact h
 · unfold vc
   split
   · exact⟨h.view,h.ballot,hm.change,hm.had⟩
   · exact⟨h.view,h.ballot,h.change,h.best⟩
instance {v:VoteT}[h:OkVt v](w:Int)(b:BallotT):OkVt (gn v w b).1:=by
 unfold gn;split
 · exact h
 · exact⟨h.view,h.ballot,h.change,h.best⟩
instance {m:MsgT}[hm:OkMg m][h:OkR K s](ep:Int):OkAc (bV s.acc ep m.ballot).1:=OkAc.ask ⟨h.acc⟩ hm.ballot
instance {m:MsgT}[hm:OkMg m][h:OkR K s](ep:Int):OkAc (gp s.acc ep m.ballot m.change).1:=OkAc.put ⟨h.acc⟩ hm.ballot hm.change
instance tookF_ok[h:OkR K s](f:Int)(m:MsgT):OkR K (k8 K f m s):=by
 unfold k8;split
 · exact h
 · rename_i vt hv
   have:=h.vote vt hv;split<;>exact inferInstance
theorem rm[h:OkR K s]{f:MS δ→MS δ}(hf: ∀s:MS δ,OkR K s→OkR K (f s))(w:Int)(m:MsgT):OkR K (eL K f s w m):=by
 unfold eL
 repeat' split
 · exact inferInstance
 · exact h
 · exact h
 · exact hf _ inferInstance
instance [OkR K s](w:Int)(m:MsgT):OkR K (qD K s w m):=rm (λ_ _=>inferInstance) w m
instance [h:OkR K s](w:Int)(m:MsgT):OkR K (nz K w m s):=by unfold nz;exact inferInstance
instance [h:OkR K s](w:Int)(m:MsgT)[OkMg m]:OkR K (oC K w m s):=by
 unfold oC
 repeat' split
 all_goals exact inferInstance
instance [OkR K s](w:Int)(m:MsgT)[OkMg m]:OkR K (sR K s w m):=rm (λ_ _=>inferInstance) w m
instance OkMg.putM(ep:Int){vt:VoteT}[h:OkVt vt]:OkMg (iK ep vt.ballot vt.change):=⟨.zero, .zero,h.ballot,gH,h.change⟩
instance OkMg.askM(ep:Int){vt:VoteT}[h:OkVt vt]:OkMg (fx ep vt.ballot):=⟨.zero, .zero,h.ballot,gH,oM⟩
instance OkMg.takenM(ep:Int){m:MsgT}[h:OkMg m]:OkMg (ju ep m.ballot):=⟨.zero, .zero,h.ballot,gH,oM⟩
theorem OkMg.promM(ep:Int){m:MsgT}[h:OkMg m]{a:AccT}(ha:OkAc a):OkMg (kr ep m.ballot a.had a.change):=⟨.zero, .zero,h.ballot,ha.had,ha.change⟩
theorem tN[h:OkR K s]{f:MS δ→MsgT→MS δ}{m:MsgT}(hf: ∀s:MS δ,OkR K s→OkR K (f s m)):OkR K (jw K f s m):=by
 unfold jw;split
 · exact hf _ inferInstance
 · exact inferInstance
instance [h:OkR K s](vt:VoteT)[OkVt vt]:OkR K (ku K s vt):=tN λ_ _=>inferInstance
instance [h:OkR K s](f:Int)(m:MsgT)[OkMg m]:OkR K (pa K f m s):=by
 unfold pa;split
 · exact h
 · rename_i vt hv
   have:=h.vote vt hv;split<;>exact inferInstance
instance [OkR K s](w:Int)(m:MsgT)[OkMg m]:OkR K (qF K s w m):=rm (λ_ _=>inferInstance) w m
theorem w4[h:OkR K s](w:Int)(m:MsgT)[OkMg m]{a:AccT}(ha:OkAc a):OkR K (nM K w m a s):=by
 have:=OkMg.promM m.epoch (m:=m) ha;unfold nM;exact inferInstance
instance [h:OkR K s](w:Int)(m:MsgT)[OkMg m]:OkR K (pN K w m s):=by
 unfold pN
 repeat' split
 · exact h
 · exact inferInstance
 · exact w4 w m inferInstance
 · exact w4 w m inferInstance
instance [OkR K s](w:Int)(m:MsgT)[OkMg m]:OkR K (sS K s w m):=rm (λ_ _=>inferInstance) w m
instance [h:OkR K s](vt:VoteT)[OkVt vt]:OkR K (mC K s vt):=tN λ_ _=>inferInstance
instance [h:OkR K s](vt:VoteT)[OkVt vt]:OkR K (oD K s vt):=by unfold oD;split<;>exact inferInstance
theorem CH{v:VoteT}{w:Int}{b had:BallotT}{c:ChangeT}(h:(eJ v w b had c).2=true):(eJ v w b had c).1.putting=true:=by
 unfold eJ at h ⊢;split
 · rename_i q;rw[if_pos q]at h;cases h
 · rename_i q;rw[if_neg q]at h;exact h
theorem Hc(s:MS δ)[h:OkR K s]:WF (eC s).flat:=IC (mY _) (by have:0≤s.id∧s.id<5:=of_decide_eq_true h.id;exact⟨by show _≤s.id;omega,by show s.id<_;omega⟩)
class OkCh(c:ChangeT):Prop where wf:WF c.flat
instance newVote_ok[h:OkR K s](c:ChangeT)[hc:OkCh c]:OkVt (jO s.view (eC s) c):=⟨h.view,Hc s,hc.wf,gH⟩
instance {vt:VoteT}[h:OkVt vt]:OkCh vt.change:=⟨h.change⟩
instance [h:OkR K s](c:ChangeT)[OkCh c]:OkR K (qZ K s c):=by
 have:OkAc (bV s.acc s.view.epoch (eC s)).1:=OkAc.ask ⟨h.acc⟩ (Hc s);unfold qZ;exact inferInstance
instance [h:OkR K s](c:ChangeT)[OkCh c]:OkR K (cG K s c).1:=by
 unfold cG
 repeat' split
 all_goals exact inferInstance
theorem qY{c:ChangeT}(h:(cG K s c).2=0):(cG K s c).1.vote=some (jO s.view (eC s) c):=by
 unfold cG at h ⊢
 by_cases h1:(bV s.acc s.view.epoch (eC s)).2=false
 · rw[if_pos h1]at h;cases h
 by_cases h2:rT K s (gQ s.view.epoch (eC s))≠0
 · rw[if_neg h1,if_pos h2]at h;exact absurd h h2
 · rw[if_neg h1,if_neg h2];rfl
instance [h:OkR K s](op:Int)(c:ChangeT)[OkCh c]:OkR K (dW K s op c).1:=by
 unfold dW
 repeat' split
 all_goals exact inferInstance
instance [h:OkR K s](o:OpT):OkR K (ow K s o).1:=by
 unfold ow
 repeat' split
 all_goals exact inferInstance
instance [h:OkR K s](o:OpT)[OkCh o.change]:OkR K (cj K s o).1:=by unfold cj;split<;>exact inferInstance
instance [h:OkR K s]:OkR K (bX K s):=by unfold bX;exact inferInstance
instance [h:OkR K s]:OkR K (ck K s):=by unfold ck;exact inferInstance
instance [h:OkR K s]:OkR K (fY K s):=by unfold fY;exact inferInstance
instance [h:OkR K s]:OkR K (rD K s):=by
 unfold rD;split
 · exact h
 · rename_i vt hv
   have:=h.vote vt hv
   repeat' split
   all_goals exact inferInstance
instance [h:OkR K s]:OkR K (iw K s):=by unfold iw;exact inferInstance
instance [h:OkR K s](f:Int)(m:MsgT)[OkMg m]:OkR K (gk K s f m):=by
 unfold gk
 repeat' split
 all_goals exact inferInstance
theorem iu(s:MS δ)(c:ChangeT):(cG K s c).1.replies=s.replies:=by
 unfold cG;split
 · rfl
 · split<;>rfl
theorem jd(s:MS δ)(x:RowT)(op:Int):(eS K s x op).1.replies=s.replies:=by unfold eS;split<;>rfl
end
end Api
end

section
namespace Leg
open Go Codec Api Go.Conc
section
variable {P:Program} {w0:World} {F:Hl} {n:Nat} {ops:Array Oper} {Q:QQ} {is:List Nat} {D:List Deferred} {L:List (Nat×Value)} {H:List HP} {i d:Nat} {o:Oper}
theorem TX.recv1{x:Operand}{t e:TypeId}{dir:ChanDir}{c cap s r:Nat}{z v:Value}{vs vs0:List Value}(k:Nat)(ho:ops[i]?=some o)(hw:Want n D ops o L)(hop:o.op= .recv t x false)(hd:o.dst=some d)(hn:Nat.blt d n=true)(ht:P.underlying t=some (.chan dir e))(hz:(P.info? e).map (·.zero)=some (some z))
 (hx:cE L x=some (.chan (some c))) (hk:Nat.blt k H.length=true) (hH:H.getD k (λ_=>True)=dR c cap vs0 s r) (he:vs0=v::vs)
 (h:TX P w0 F n ops Q is D ((d,v)::L) (H.set k (dR c cap vs s (r+1)))):TX P w0 F n ops Q (i::is) D L H:=λa w f sm m=>by
 subst he;have hc:=m.chan k hk hH
 have hr:(execOp a.eval o).run P w= .ok (.comm #[{chan:= .chan (some c),send:=none,zero:=z}] true (.recv false)) w:=by
  simp[execOp,hop,f.eval hx,Sem.run_bind,run_underlying ht,nw hz]
 refine LJ (v:=v) (w2:=w.setChan c cap vs.toArray false s (r+1) false) ho (hw a f) hr (λfr cs es hs=>?_) ?_
 · have:=step_lone_recv_buf false hs hc (by simp)
   rw[this];simp[got]
 · rw[hd]
   exact h _ _ (f.put (lb hn) _) (sm.setChan ..) (m.setChan k hk hH)
theorem TX.send1{x y:Operand}{c cap s r:Nat}{v:Value}{vs:List Value}(k:Nat)(ho:ops[i]?=some o)(hw:Want n D ops o L)(hop:o.op= .send x y)(hd:o.dst=none)
 (hx:cE L x=some (.chan (some c))) (hy:cE L y=some v) (hk:Nat.blt k H.length=true) (hH:H.getD k (λ_=>True)=dR c cap vs s r) (hroom:vs.length<cap)
 (h:TX P w0 F n ops Q is D L (H.set k (dR c cap (vs++[v]) (s+1) r))):TX P w0 F n ops Q (i::is) D L H:=λa w f sm m=>by
 have hc:=m.chan k hk hH
 have hr:(execOp a.eval o).run P w= .ok (.comm #[{chan:= .chan (some c),send:=some v,zero:= .tuple #[]}] true .send) w:=by
  simp[execOp,hop,f.eval hx,f.eval hy,Sem.run]
 refine LJ (v:=undef) (w2:=w.setChan c cap (vs++[v]).toArray false (s+1) r false) ho (hw a f) hr (λfr cs es hs=>?_) ?_
 · have:=step_lone_send_room hs hc (by simpa using hroom)
   rw[this];simp
 · rw[hd]
   exact h _ _ f (sm.setChan ..) (m.setChan k hk hH)
end
def BM(k:Nat)(u:Value):Value:=if k=0 then .slice none 0 0 else u
theorem Hy{α:Type}{l:List α}{k:Nat}(h:k<l.length):l.drop k++l.take k=l[k]::(l.drop (k+1)++l.take k):=by rw[di h];rfl
theorem Bc{α:Type}{l:List α}{k:Nat}(h:k<l.length):(l.drop (k+1)++l.take k)++[l[k]]=l.drop (k+1)++l.take (k+1):=by rw[aZ,bF h]
end Leg
namespace Leg
open Go
theorem Ii{us:List Value}{k:Nat}(h:k=0)(hk:k<us.length):us[k]=BM (k+1) (us.getD 0 undef):=by
 subst h;unfold BM;rw[if_neg (by omega)];simp[List.getD_eq_getElem?_getD,hk]
theorem Ig{u:Value}{k:Nat}(h: ¬k=0):BM k u=BM (k+1) u:=by unfold BM;rw[if_neg h,if_neg (by omega)]
theorem Ih{u:Value}{k:Nat}(h: ¬k=0):BM k u=u:=if_neg h
end Leg
namespace Leg
open Go
def rB{α:Type}:List α→List α
 | []=>[]
 |a::l=>l++[a]
def Hb{α:Type}(l:List α):Bool:=decide (l.length≠0∧l.length≠8)
def CK{α:Type}[Inhabited α](l:List α):List α:=if l.length≠0∧l.length≠8 then l++[l.getD 0 default]else l
end Leg
namespace Leg
open Go
def kL{α:Type}:Nat→List α→List α
 |0,l=>l
 |n+1,l=>rB (kL n l)
theorem Fq{α:Type}(l:List α):(rB l).length=l.length:=by cases l<;>simp[rB]
theorem jR{α:Type}: ∀(n:Nat) (l:List α),(kL n l).length=l.length
 |0,_=>rfl
 |n+1,l=>by rw[kL,Fq,jR n l]
theorem Fp{α:Type}{l:List α}{x:α}:x∈rB l↔x∈l:=by
 cases l with
 |nil=>rfl
 |cons a l=>simp[rB,or_comm]
theorem nV{α:Type}{x:α}: ∀(n:Nat) (l:List α),x∈kL n l↔x∈l
 |0,_=>Iff.rfl
 |n+1,l=>by rw[kL,Fp,nV n l]
theorem yd{α β:Type}(f:α→β)(l:List α):rB (l.map f)=(rB l).map f:=by cases l<;>simp[rB]
theorem I8{α β:Type}[Inhabited α][Inhabited β](f:α→β)(l:List α):CK (l.map f)=(CK l).map f:=by
 unfold CK;rw[cb];split
 · rename_i h
   cases l with
   |nil=>exact absurd rfl h.1
   |cons a l=>simp
 · rfl
theorem I9{α β:Type}(f:α→β)(l:List α):Hb (l.map f)=Hb l:=by unfold Hb;rw[cb]
end Leg
end

section
namespace Api
open Go Leg Codec Dsk Wal
instance :Inhabited MsgT:=⟨.zero⟩
structure LD where
 cnt:Nat
 used:Int
 D:DS
structure DkOk(D:DS):Prop where
 ok:D.Ok
 inn:Wal.DS.In D
 ws:D.ws.length≤2048
 up:D.dn=false→D.ws=[]
def Wrote(D:DS)(n:Nat)(r:Int×DS):Prop:=r.2.Ok∧Wal.DS.In r.2∧((D.dn=true∧r.2=D)∨(D.dn=false∧r.2.ws.length≤D.ws.length+n∧(r.1=0→r.2.dn=false)∧(r.1≠0→r.2.dn=true)))
theorem Wrote.none{D:DS}(h:D.Ok)(hi:Wal.DS.In D):Wrote D 0 (0,D):=⟨h,hi,by
 cases hd:D.dn
 · exact .inr ⟨rfl,aQ _,λ_=>by first|exact hd|rfl,λq=>absurd rfl q⟩
 · exact .inl ⟨rfl,rfl⟩⟩
theorem Wrote.more{D:DS}{n m:Nat}{r:Int×DS}(h:Wrote D n r)(hm:n≤m):Wrote D m r:=⟨h.1,h.2.1,h.2.2.imp id λ⟨a,b,c⟩=>⟨a,by omega,c⟩⟩
theorem Wrote.one{D:DS}(h:D.Ok)(hi:Wal.DS.In D){at':Int}{bs:List UInt8}(h1:0≤at'∧at'<2048)(h2:bs.length≤64):Wrote D 1 (D.write at' bs):=by
 cases hd:D.dn
 · by_cases hc:D.ar=true∧D.lf=0
   · rw[CC h1 h2 hc]
     exact⟨⟨h.s,h.ws,h.lf⟩,hi, .inr ⟨hd,Nat.le_succ _,(λq=>absurd q (by show ¬(4:Int)=0;decide)),λ_=>rfl⟩⟩
   · have h4:D.ar=false∨0<D.lf:=by
      have:=h.lf;cases q:D.ar
      · exact .inl rfl
      · right
        have:D.lf≠0:=λe=>hc ⟨q,e⟩
        omega
     rw[uV h1 h2 hd h4];exact⟨EH h h2 h4,EI hi h1, .inr ⟨hd,by simp[Dg],λ_=>rfl,λq=>absurd rfl q⟩⟩
 · have e:D.write at' bs=(4,D):=by
    rw[DS.write,if_neg (by omega),if_pos (.inl hd)];cases D;simp only at hd;rw[hd]
   rw[e];exact⟨h,hi, .inl ⟨hd,rfl⟩⟩
theorem Wrote.then{D:DS}{n m:Nat}{r q:Int×DS}(h:Wrote D n r)(h0:r.1=0)(g:Wrote r.2 m q):Wrote D (n+m) q:=by
 obtain⟨_,_,h⟩:=h;refine⟨g.1,g.2.1,?_⟩;rcases h with⟨hd,e⟩| ⟨hd,hl,hz,_⟩
 · rw[e]at g
   rcases g.2.2 with⟨_,e2⟩| ⟨hd2,_⟩
   · exact .inl ⟨hd,e2⟩
   · rw[hd]at hd2;cases hd2
 · rcases g.2.2 with⟨hd2,_⟩| ⟨_,hl2,h3⟩
   · rw[hz h0]at hd2;cases hd2
   · exact .inr ⟨hd,by omega,h3⟩
theorem Wrote.writes: ∀(ss:List jE) (at':Int) (D:DS),D.Ok→Wal.DS.In D→0≤at'→at'+ss.length≤2048→(∀s∈ss,s.length=64)→Wrote D ss.length (gO ss at' D)
 | [],_,D,h,hi,_,_,_=>Wrote.none h hi
 |s::ss,at',D,h,hi,h0,h1,hs=>by
  simp only[aw]at h1;have h2:=hs s (by simp);have o:=Wrote.one h hi (at':=at') (bs:=s) (by omega) (by omega);rw[gO];split
  · rename_i hz
    have:=o.then hz (Wrote.writes ss (at'+1) _ o.1 o.2.1 (by omega) (by omega) λx hx=>hs x (by simp[hx]))
    rwa [lO]at this
  · exact o.more (by simp)
theorem Wrote.wipes: ∀(n:Nat) (at':Int) (D:DS),D.Ok→Wal.DS.In D→0≤at'→at'+n≤2048→Wrote D n (jj n at' D)
 |0,_,D,h,hi,_,_=>Wrote.none h hi
 |n+1,at',D,h,hi,h0,h1=>by
  rw[jj];split
  · exact(Wrote.wipes n (at'+1) D h hi (by omega) (by omega)).more (by omega)
  · have o:=Wrote.one h hi (at':=at') (bs:=[]) (by omega) (by simp)
    split
    · rename_i hz
      have:=o.then hz (Wrote.wipes n (at'+1) _ o.1 o.2.1 (by omega) (by omega))
      rwa [lO]at this
    · exact o.more (by omega)
theorem DkOk.wrote{D:DS}(h:DkOk D){n:Nat}{r:Int×DS}(g:Wrote D n r)(hn:n≤2048):(r.1≠0→DkOk r.2)∧DkOk r.2.sync.2:=by
 obtain⟨ho,hi,hr⟩:=g;rcases hr with⟨hd,e⟩| ⟨hd,hl,h0,h1⟩
 · rw[e]
   refine⟨λ_=>h,?_⟩;rw[DS.sync,if_pos hd];exact h
 · rw[h.up hd]at hl
   simp only[az,bi]at hl;refine⟨λq=>⟨ho,hi,by omega,λz=>by rw[h1 q]at z;cases z⟩,?_⟩
   by_cases q:r.1=0
   · obtain⟨_,s2,_⟩:=sV (h0 q)
     exact⟨DS.sync_ok ho,Ex hi,by rw[s2];exact aN _,λ_=>s2⟩
   · rw[DS.sync,if_pos (h1 q)]
     exact⟨ho,hi,by show r.2.ws.length≤2048;omega,λz=>by rw[show r.2.dn=true from h1 q]at z;cases z⟩
theorem vI{D:DS}(hI:Wal.DS.In D)(hD:D.Ok): ∀(f:Nat) (cnt used:Int),0≤used→used≤2048→0≤(fP D.read f cnt used).2∧(fP D.read f cnt used).2≤2048∧(fP D.read f cnt used).1.length≤f
 |0,_,_,h0,h1=>⟨h0,h1,aQ _⟩
 |f+1,cnt,used,h0,h1=>by
  rw[fP];split
  · exact⟨h0,h1,aN _⟩
  · rename_i b all h
    have h2:=nY hI hD h0 h;have h3:=(kS (lG hD _) h).1;obtain⟨a,b',c⟩:=vI hI hD f (cnt+1) (used+all) (by omega) h2;exact⟨a,b',by simp only[aw];omega⟩
theorem DkOk.open{D:DS}(h:DkOk D):DkOk (bP D).D∧0≤(bP D).used∧(bP D).used≤2048∧(bP D).recs.length≤2049:=by
 obtain⟨a,b,c⟩:=vI h.inn h.ok iQ 0 0 (by omega) (by omega);rw[sj]at c;have w:=h.wrote (Wrote.wipes (2048- (fP D.read iQ 0 0).2).toNat _ D h.ok h.inn a (by omega)) (by omega);unfold bP;simp only;split
 · rename_i q;exact⟨w.1 q,by show(0:Int)≤0;omega,by show(0:Int)≤2048;omega,aN _⟩
 · split
   · exact⟨w.2,by show(0:Int)≤0;omega,by show(0:Int)≤2048;omega,aN _⟩
   · exact⟨w.2,a,b,by rw[←sj]at c;exact c⟩
theorem DkOk.arm{D:DS}(h:DkOk D)(n:Int)(hn:n≤9223372036854775807):DkOk (D.arm n):=⟨⟨h.ok.s,h.ok.ws,by show 0≤max n 0∧max n 0≤9223372036854775807;omega⟩,h.inn,h.ws,h.up⟩
theorem DkOk.crash{D:DS}(h:DkOk D)(mask torn cut:Int):DkOk (D.crash mask torn cut):=by
 have c:=Calm.crash h.ok h.inn mask torn cut;exact⟨c.ok,c.inn,aN _,λ_=>rfl⟩
theorem DkOk.new:DkOk .new:=⟨⟨mg,mg,by simp[DS.new],by simp[DS.new]⟩,⟨Pb,Pb⟩,aN _,λ_=>rfl⟩
structure LD.Ok(e:LD):Prop where
 dk:DkOk e.D
 used:0≤e.used∧e.used≤2048
 cnt:(e.cnt:Int)≤4100+e.used
def LD.put(e:LD)(bs:List UInt8):LD×Int:=(⟨(n9 e.D e.cnt e.used bs).cnt,(n9 e.D e.cnt e.used bs).used,(n9 e.D e.cnt e.used bs).D⟩,(n9 e.D e.cnt e.used bs).err)
theorem LD.put_ok(e:LD)(bs:List UInt8)(h:e.Ok)(hb:bs.length≤3000):(e.put bs).1.Ok:=by
 obtain⟨⟨ho,hi,hw,hu⟩,h1,h2⟩:=h;unfold LD.put n9;rw[if_neg (by omega)]
 by_cases hf:(bA bs.length:Int)>2048-e.used
 · rw[if_pos hf];exact⟨⟨ho,hi,hw,hu⟩,h1,h2⟩
 rw[if_neg hf];have hp:0<bA bs.length:=pw _;have hl:(cr ((e.cnt+1:Nat):Int) bs).length=bA bs.length:=ej _ _;have w:=DkOk.wrote ⟨ho,hi,hw,hu⟩ (Wrote.writes (cr ((e.cnt+1:Nat):Int) bs) e.used e.D ho hi h1.1 (by omega) (zq _ _)) (by omega);simp only;split
 · rename_i q;exact⟨w.1 q,h1,h2⟩
 · split
   · exact⟨w.2,h1,h2⟩
   · exact⟨w.2,(by show 0≤e.used+(bA bs.length:Int)∧e.used+(bA bs.length:Int)≤2048;omega),by show((e.cnt+1:Nat):Int)≤4100+(e.used+bA bs.length);omega⟩
def KD:Dk LD:=⟨LD.put,λe=>e.D.dn,LD.Ok,LD.put_ok⟩
structure Slot where
 run:Option (MS LD)
 D:DS
 past:List ReplyT
structure CL where
 ms:List Slot
 W:List (List MsgT)
def Slot.nil:Slot:=⟨none, .new,[]⟩
def CL.at'(a:CL)(i:Nat):Slot:=a.ms.getD i .nil
def Slot.dk(x:Slot):DS:=match x.run with
 |some s=>s.e.D
 |none=>x.D
def Slot.reps(x:Slot):List ReplyT:=x.past++(match x.run with
 |some s=>s.replies
 |none=>[])
def Slot.up(x:Slot):Bool:=match x.run with
 |some s=> !s.e.D.dn
 |none=>false
def CL.set(a:CL)(i:Nat)(x:Slot):CL:= {a with ms:=a.ms.set i x}
def rS(W:List (List MsgT))(f:Nat)(s:SaidT):List (List MsgT):=if dz ((f:Nat):Int) s.to' then W.set (bD ((f:Nat):Int) s.to') (if(W.getD (bD ((f:Nat):Int) s.to') []).length<8 then W.getD (bD ((f:Nat):Int) s.to') []++[s.msg]else W.getD (bD ((f:Nat):Int) s.to') [])else W
def gR(W:List (List MsgT))(f:Nat)(l:List SaidT):List (List MsgT):=l.foldl (λW s=>rS W f s) W
def MS.hush{δ:Type}(s:MS δ):MS δ:= {s with o:=[]}
def CL.did(a:CL)(i:Nat)(s:MS LD):CL:=⟨a.ms.set i {a.at' i with run:=some s.hush},gR a.W i s.o⟩
def MS.dsk(s:MS LD)(D:DS):MS LD:= {s with e:= {s.e with D:=D}}
def xK(x:Slot)(n:Int):Slot:=match x.run with
 |some s=> {x with run:=some (s.dsk (s.e.D.arm n))}
 |none=> {x with D:=x.D.arm n}
def nh(x:Slot)(mask torn cut:Int):Slot:=⟨none,x.dk.crash mask torn cut,x.reps⟩
def eu(i:Nat)(D:DS):Option (MS LD)×Int:=
 if(bP D).err≠0 then(none,(bP D).err)
 else match lh (bP D).recs (zI ((i:Nat):Int) (⟨(bP D).recs.length,(bP D).used,(bP D).D⟩:LD))with
  |none=>(none,1)
  |some s=>(some s,0)
def jT(i:Nat)(x:Slot):Slot×Int:=match x.run with
 |some _=>(x,5)
 |none=>({x with run:=(eu i x.D).1,D:=(bP x.D).D},(eu i x.D).2)
def wQ(a:CL)(f t:Nat)(m:MsgT):CL×Int:=match(a.at' t).run with
 |none=>(a,0)
 |some s=>if s.e.D.dn then(a,0)else if(jr (dP m)).2=0 then(a.did t (gk KD s ((f:Nat):Int) (jr (dP m)).1),0)else(a,(jr (dP m)).2)
def CL.way(a:CL)(k:Nat)(l:List MsgT):CL:= {a with W:=a.W.set k l}
def o8(a:CL)(o:OpT):CL×Int:=
 if dz o.at' o.to'=false then(a,5)
 else match a.W.getD (bD o.at' o.to') []with
  | []=>(a,10)
  |m::l=>
   if o.kind=7 then(if Hb (m::l)then(a.way (bD o.at' o.to') (CK (m::l)),0)else(a,3))
   else match kL (max o.n 0% ((m::l).length:Int)).toNat (m::l)with
    | []=>(a,0)
    |m::l=>if o.kind=6 then(a.way (bD o.at' o.to') l,0)else wQ (a.way (bD o.at' o.to') l) o.at'.toNat o.to'.toNat m
def GK(a:CL)(i:Nat)(o:OpT):CL×Int:=match(a.at' i).run with
 |none=>(a,4)
 |some s=>if s.e.D.dn then(a,4)else(a.did i (cj KD s o).1,(cj KD s o).2)
def Ft(a:CL)(i:Nat):CL×Int:=match(a.at' i).run with
 |none=>(a,4)
 |some s=>if s.e.D.dn then(a,4)else(a.did i (iw KD s),0)
def uA(a:CL)(o:OpT):CL×Int:=
 if iy o.at'=false then(a,5)
 else if 0≤o.kind∧o.kind≤4 then GK a o.at'.toNat o
 else if o.kind=5∨o.kind=6∨o.kind=7 then o8 a o
 else if o.kind=8 then Ft a o.at'.toNat
 else if o.kind=9 then(a.set o.at'.toNat (xK (a.at' o.at'.toNat) o.n),0)
 else if o.kind=10 then(a.set o.at'.toNat (nh (a.at' o.at'.toNat) o.mask o.torn o.cut),0)
 else if o.kind=11 then(a.set o.at'.toNat (jT o.at'.toNat (a.at' o.at'.toNat)).1,(jT o.at'.toNat (a.at' o.at'.toNat)).2)
 else(a,5)
def rX(i:Nat):Slot:=(jT i .nil).1
def CL.new:CL:=⟨(List.range 5).map rX,List.replicate 25 []⟩
structure Fresh{δ:Type}(i:Int)(e:δ)(s:MS δ):Prop where
 id:s.id=i
 vote:s.vote=none
 replies:s.replies=[]
 e:s.e=e
 o:s.o=[]
 waits:s.waits=0
 ops:s.ops=0
theorem Fresh.rest{δ:Type}{i:Int}{e:δ}{s:MS δ}(h:Fresh i e s)(m:RecT):Fresh i e (jl s m):=by
 obtain⟨h1,h2,h3,h4,h5,h6,h7⟩:=h;unfold jl
 repeat' split
 all_goals exact⟨h1,by first|exact h2|rfl,h3,h4,h5,h6,h7⟩
theorem Fresh.new{δ:Type}(i:Int)(e:δ):Fresh i e (zI i e):=⟨rfl,rfl,rfl,rfl,rfl,rfl,rfl⟩
theorem Fresh.read{δ:Type}{i:Int}{e:δ}: ∀(l:List (List UInt8)) {s s':MS δ},Fresh i e s→lh l s=some s'→Fresh i e s'
 | [],s,s',h,q=>by
  obtain rfl:=dK q;exact h
 |b::l,s,s',h,q=>by
  rw[lh]at q;split at q
  · cases q
  · exact Fresh.read l (h.rest _) q
theorem tE{i:Nat}{D:DS}{s:MS LD}(h:(eu i D).1=some s):(bP D).err=0∧lh (bP D).recs (zI ((i:Nat):Int) (⟨(bP D).recs.length,(bP D).used,(bP D).D⟩:LD))=some s:=by
 unfold eu at h;split at h
 · cases h
 · rename_i h0
   refine⟨Decidable.not_not.1 h0,?_⟩;split at h
   · cases h
   · rename_i h2;rw[h2];exact h
theorem za{v:ViewT}{bs r:List UInt8}(h:mq bs=some (v,r)):OkVw v:=by
 obtain⟨⟨h1,h2,_⟩,_⟩:=sO h;have hr:=rq h;exact⟨hr,CJ ⟨by omega,by omega⟩ ⟨by omega,by omega⟩ hr⟩
theorem p8{b:BallotT}{bs r:List UInt8}(h:jP bs=some (b,r)):WF b.flat:=by
 obtain⟨⟨h1,h2⟩,_⟩:=pM h;exact OkB.wf ⟨h1,h2⟩
theorem Ec{c:ChangeT}{bs r:List UInt8}(h:kY bs=some (c,r)):WF c.flat:=by
 obtain⟨⟨h1,h2,h3⟩,_⟩:=uj h;exact OkC.wf ⟨h1,h2,h3⟩
theorem Db{x:RowT}{bs r:List UInt8}(h:uu bs=some (x,r)):OkRow x:=OkRow.of (zu h)
theorem Lg{m:MsgT}{g:Bool}{bs r:List UInt8}(h:cM bs=some ((m,g),r)):OkMg m:=by
 obtain⟨k,r1,_,h⟩:=bI h
 have fin: ∀{m':MsgT} {g':Bool} {b r:List UInt8},pr (m',g') b=some ((m,g),r)→OkMg m'→OkMg m:=λh q=>by
  obtain⟨e,_⟩:=g9 h;injection e with e1 e2
  exact e1▸q
 split at h
 · obtain⟨_,_,_,h⟩:=bI h;obtain⟨x,_,hx,h⟩:=bI h;exact fin h ⟨Db hx, .zero,gH,gH,oM⟩
 split at h
 · obtain⟨_,_,_,h⟩:=bI h;exact fin h ⟨.zero, .zero,gH,gH,oM⟩
 split at h
 · obtain⟨_,_,_,h⟩:=bI h;obtain⟨b,_,hb,h⟩:=bI h;exact fin h ⟨.zero, .zero,p8 hb,gH,oM⟩
 split at h
 · obtain⟨_,_,_,h⟩:=bI h;obtain⟨b,_,hb,h⟩:=bI h;obtain⟨d,_,hd,h⟩:=bI h;obtain⟨c,_,hc,h⟩:=bI h;exact fin h ⟨.zero, .zero,p8 hb,p8 hd,Ec hc⟩
 split at h
 · obtain⟨_,_,_,h⟩:=bI h;obtain⟨b,_,hb,h⟩:=bI h;obtain⟨c,_,hc,h⟩:=bI h;exact fin h ⟨.zero, .zero,p8 hb,gH,Ec hc⟩
 split at h
 · obtain⟨v,_,hv,h⟩:=bI h;exact fin h ⟨.zero,za hv,gH,gH,oM⟩
 split at h
 · obtain⟨_,_,_,h⟩:=bI h;obtain⟨v,_,hv,h⟩:=bI h;exact fin h ⟨.zero,za hv,gH,gH,oM⟩
 · exact fin h ⟨.zero, .zero,gH,gH,oM⟩
class OkRd(m:RecT):Prop where
 row:OkRow m.row
 view:OkVw m.view
 ballot:WF m.ballot.flat
 change:WF m.change.flat
theorem KR{m:RecT}{g:Bool}{bs r:List UInt8}(h:df bs=some ((m,g),r)):OkRd m:=by
 obtain⟨k,r1,_,h⟩:=bI h
 have fin: ∀{m':RecT} {g':Bool} {b r:List UInt8},pr (m',g') b=some ((m,g),r)→OkRd m'→OkRd m:=λh q=>by
  obtain⟨e,_⟩:=g9 h;injection e with e1 e2
  exact e1▸q
 split at h
 · obtain⟨x,_,hx,h⟩:=bI h;exact fin h ⟨Db hx, .zero,gH,oM⟩
 split at h
 · obtain⟨_,_,_,h⟩:=bI h;obtain⟨x,_,hx,h⟩:=bI h;exact fin h ⟨Db hx, .zero,gH,oM⟩
 split at h
 · obtain⟨_,_,_,h⟩:=bI h;exact fin h ⟨.zero, .zero,gH,oM⟩
 split at h
 · obtain⟨_,_,_,h⟩:=bI h;obtain⟨b,_,hb,h⟩:=bI h;exact fin h ⟨.zero, .zero,p8 hb,oM⟩
 split at h
 · obtain⟨_,_,_,h⟩:=bI h;obtain⟨b,_,hb,h⟩:=bI h;obtain⟨c,_,hc,h⟩:=bI h;exact fin h ⟨.zero, .zero,p8 hb,Ec hc⟩
 split at h
 · obtain⟨v,_,hv,h⟩:=bI h;exact fin h ⟨.zero,za hv,gH,oM⟩
 · exact fin h ⟨.zero, .zero,gH,oM⟩
theorem EZ(bs:List UInt8):OkMg (jr bs).1:=by
 unfold jr;split
 · rename_i m h;exact Lg h
 · exact⟨.zero, .zero,gH,gH,oM⟩
theorem JJ(bs:List UInt8):OkRd (nI bs).1:=by
 unfold nI;split
 · rename_i m h;exact KR h
 · exact⟨.zero, .zero,gH,oM⟩
section
variable {δ:Type} {K:Dk δ} {s:MS δ}
theorem Ji(h:OkR K s)(m:RecT)(hm:OkRd m):OkR K (jl s m):=by
 have ha:OkAc s.acc:=⟨h.acc⟩;unfold jl;split
 · exact⟨h.e,h.id,h.view,hm.row,h.mir,h.book,h.last,h.acc,h.vote⟩
 split
 · have:=hm.row;exact inferInstance
 split
 · exact inferInstance
 split
 · exact⟨h.e,h.id,h.view,h.own,h.mir,h.book,h.last,lH (lH (lH ha.epoch hm.ballot) ha.had) ha.change,h.vote⟩
 split
 · exact⟨h.e,h.id,h.view,h.own,h.mir,h.book,h.last,lH (lH (lH ha.epoch hm.ballot) hm.ballot) hm.change,h.vote⟩
 split
 · have:=hm.view;exact inferInstance
 · exact h
theorem zb{v:Vector RowT 5}(h:v= #v[.zero, .zero, .zero, .zero, .zero])(i:Nat)(hi:i<5):OkRow v[i]:=by
 subst h
 match i,hi with
 |0,_|1,_|2,_|3,_|4,_=>exact OkRow.zero
theorem JB{i:Int}{e:δ}(he:K.ok e)(hi:cy i=true):OkR K (zI i e):=
 ⟨he,hi, .first, .zero,zb rfl,zb rfl,zb rfl,No _ (by decide),λ_ q=>nomatch q⟩
theorem Bf: ∀(l:List (List UInt8)) {s s':MS δ},OkR K s→lh l s=some s'→OkR K s'
 | [],s,s',h,q=>by
  obtain rfl:=dK q;exact h
 |b::l,s,s',h,q=>by
  rw[lh]at q;split at q
  · cases q
  · exact Bf l (Ji h _ (JJ b)) q
theorem yg{i:Nat}(hi:i<5){D:DS}(hD:DkOk D){s:MS LD}(h:(eu i D).1=some s):OkR KD s∧Fresh ((i:Nat):Int) (⟨(bP D).recs.length,(bP D).used,(bP D).D⟩:LD) s:=by
 obtain⟨_,h2⟩:=tE h;obtain⟨o1,o2,o3,o4⟩:=hD.open;exact⟨Bf _ (JB (K:=KD) ⟨o1,⟨o2,o3⟩,by show(((bP D).recs.length:Nat):Int)≤4100+(bP D).used;omega⟩ (decide_eq_true ⟨by omega,by omega⟩)) h2,Fresh.read _ (Fresh.new _ _) h2⟩
end
end Api
end

section
namespace Go.Proofs.YtfocodjhmkokpaaGreatDoor
open Go Leg Codec Api Dsk Wal
theorem Ah(b c s r:Nat)(us:List Value)(x:Value)(bs:List UInt8)(hb:bs.length≤1000000)(hroom:us.length<8):
 DT 116 #[(.pointer (some ⟨b,0,none⟩)),x] (IsW x bs) [aj b [(.chan (some c))] 184,dR c 8 (us) (s) (r)] (c9 (λv H=>v= .bool true∧∃u,H=[aj b [(.chan (some c))] 184,dR c 8 (us++[u]) (s+1) r,cu u bs 5])):=by
 refine Leg.Does.body (vs:=[(.pointer (some ⟨b,0,none⟩)),x]) (n:=15) Tryz.func116 rfl rfl rfl (λw0 F hF=>?_);refine sr λ_ J1=>?_
 refine lc ?_;refine nx J1 ?_;refine aa λ_ J2=>?_
 refine sr λ_ J3=>?_
 refine mv ?_;refine tp (eR rfl rfl) ?_;refine tp (aW (r:=0) rfl Cm rfl tB rfl rfl) ?_;refine tp (ek (v:=(.chan (some c))) rfl uE rfl rfl (du 0 rfl rfl) rfl) ?_;refine nx J3 ?_;refine ad ?_;refine Cp (ab rfl) rfl rfl rfl e8 js (λv9=>?_);change TL _ _ _ _ _ _ _ _ _ [cu v9 ([]) 5,aj b [(.chan (some c))] 184,dR c 8 (us) (s) (r)];refine mv ?_;refine bO (k:=0) (news:=dw (bs)) (nn':=(bs:List UInt8).length) (xs':=dw (bs)) (ab rfl) rfl rfl rfl e8 sH rfl rfl rfl rfl rfl rfl (λ_ _=>hF.src (λ_ h=>dG h)) (eB _) (by simp only[maxLen,az];omega) (by simp only[az];omega) (by simp) (ca _) (λv11 ov11=>?_);change TL _ _ _ _ _ _ _ _ _ [cu v11 (bs) 5,aj b [(.chan (some c))] 184,dR c 8 (us) (s) (r)];refine nx J2 ?_;refine aa λ_ J4=>?_
 refine xN ?_;change TX _ _ _ _ _ _ [0,1,2] _ _ _;refine TX.sendRoom 2 rfl (ab rfl) rfl rfl rfl LF rfl rfl rfl rfl hroom ?_;change TX _ _ _ _ _ _ _ _ _ [cu v11 (bs) 5,aj b [(.chan (some c))] 184,dR c 8 (us++[v11]) (s+1) (r)];refine sE rfl (ab rfl) rfl rfl (eF (vs:=[(.int .i64 0),(.bool false)]) rfl rfl rfl) ?_;refine sE rfl (ab rfl) rfl rfl (xV rfl rfl rfl) ?_;refine JX ?_;refine ac J4 ?_;refine am ?_;refine jD rfl ?_;refine sr λ_ J5=>?_
 refine lc ?_;refine nx J5 ?_;refine ah ?_;refine aH ?_;refine aF (cZ _) (λ_ s=>ak [1,1,0] rfl s) ?_;refine av rfl rfl ?_;exact⟨rfl,_,rfl⟩
theorem wW(b c s r:Nat)(us:List Value)(ls:List (List UInt8))(h8:ls.length≤8)(hb: ∀x∈ls,x.length≤1000000):
    DT 78 #[(.pointer (some ⟨b,0,none⟩))] T0 [aj b [(.chan (some c))] 184,dR c 8 (us) (s) (r),ei (us) (ls) 5] (c9 (λv H=>((ls.length=0∨ls.length=8)∧v= .bool false∧H=[aj b [(.chan (some c))] 184,dR c 8 us s r,ei us ls 5])∨(ls.length≠0∧ls.length≠8∧v= .bool true∧∃un,H=[aj b [(.chan (some c))] 184,dR c 8 (us++[un]) (s+us.length+1) (r+us.length),ei us ls 5,cu un (ls.getD 0 []) 5]))):=by
 refine BD 41 Tryz.func78 rfl rfl rfl λw0 F hF=>sr λ_ J1=>PS ?_
 refine nx J1 (sr λ_ J2=>PS ?_);refine CE Br (sC b c s r us ls) ID ?_;change TL _ _ _ _ _ _ _ _ _ [aj b [(.chan (some c))] 184,dR c 8 (us) (s) (r),ei (us) (ls) 5];refine xM (p:=us.length=ls.length) (λw m=>(p6 2 rfl rfl m).1) (λhul=>PS ?_);refine nx J2 (aa λ_ J3=>sr λ_ J4=>P2 ?_);refine ao ?_ ?_<;>intro h10;refine PS ?_
 iterate 7 refine UT ?_
 refine PS ?_;refine nx J4 (CY (sr λ_ J5=>PS ?_));refine nx J5 (ah (ae (WK [0,0,0] (av rfl rfl ?_))));exact .inl ⟨by omega,rfl,rfl⟩;refine P4 ?_;refine FA 0 Cm tB ?_;refine LA 0 uE ?_;refine tq (PV.capChan 1 rfl uE rfl rfl rfl) ?_;refine PS ?_;refine ao ?_ ?_<;>intro h18;refine PS ?_;refine nx J4 (CY (sr λ_ J6=>PS ?_));refine nx J6 (ah (ae (WK [0,0,0] (av rfl rfl ?_))));exact .inl ⟨by omega,rfl,rfl⟩;refine PS ?_;refine nx J4 (CN (qx J3 (sr λ_ J7=>PS ?_)));refine nx J7 (aa λ_ J8=>sr λ_ J9=>P2 ?_);refine nx J9 (am ?_)
 refine bu (α:=(Nat)) (λk=>k≤us.length) (λk=>[(0,(.pointer (some ⟨b,0,none⟩))),(2,(.bool false)),(4,(BM k (us.getD 0 undef))),(20,(.int .i64 (((ls.length:Nat):Int)))),(21,(.int .i64 (((k:Nat):Int))))]) (λk=>[aj b [(.chan (some c))] 184,dR c 8 (us.drop k++us.take k) (s+k) (r+k),ei (us) (ls) 5]) (λk=>us.length-k) 0
     (aN _) SB
     (λ_ q=>by simpa using q) (λk hinv=>?_)
 obtain hk:=hinv;refine sr λ_ J10=>PS ?_
 refine ao ?_ ?_<;>intro h22;have hku:k<us.length:=by omega
 refine nx J10 (aa λ_ J11=>CY (qx J11 (aa λ_ J12=>am (sr λ_ J13=>P2 ?_))));refine nx J13 (aa λ_ J14=>xN (sE rfl (ab rfl) rfl rfl (iW rfl rfl) (sE rfl (ab rfl) rfl rfl (eR rfl rfl) (sE rfl (ab rfl) rfl rfl (aW (r:=0) rfl Cm rfl tB rfl rfl) (sE rfl (ab rfl) rfl rfl (ek (v:=(.chan (some c))) rfl uE rfl rfl (RO 0) rfl) (TX.recv1 1 rfl (ab rfl) rfl rfl rfl uE LF rfl rfl rfl (Hy hku) (sE rfl (ab rfl) rfl rfl (Cy rfl rfl) (JX (ac J14 (aa λ_ J15=>?_))))))))));refine sr λ_ J16=>P2 ?_
 refine ao ?_ ?_<;>intro h30;refine nx J16 (CY (ad (P2 ?_)));refine nx J15 (xN (sE rfl (ab rfl) rfl rfl (iW rfl rfl) (sE rfl (ab rfl) rfl rfl (eR rfl rfl) (sE rfl (ab rfl) rfl rfl (aW (r:=0) rfl Cm rfl tB rfl rfl) (sE rfl (ab rfl) rfl rfl (ek (v:=(.chan (some c))) rfl uE rfl rfl (RO 0) rfl) (sE rfl (ab rfl) rfl rfl (iW rfl rfl) (TX.send1 1 rfl (ab rfl) rfl rfl rfl rfl rfl rfl (by simp only[ag,bN,bq];omega) (JX (af (ac J12 (ad ?_)))))))))));refine AD ?_;refine PS ?_;refine ap ?_
 exact aJ ((k+1):(Nat)) (by omega) (by show us.length- (k+1)<us.length-k;omega)
   (aX (aX (bC rfl (by first|exact Ii (by omega) hku|exact Ig (by omega)) SB)))
   (λ_ q=>by
      rw[Bc hku]at q
      exact q)
 refine nx J16 (CN (qx J15 (xN (sE rfl (ab rfl) rfl rfl (iW rfl rfl) (sE rfl (ab rfl) rfl rfl (eR rfl rfl) (sE rfl (ab rfl) rfl rfl (aW (r:=0) rfl Cm rfl tB rfl rfl) (sE rfl (ab rfl) rfl rfl (ek (v:=(.chan (some c))) rfl uE rfl rfl (RO 0) rfl) (sE rfl (ab rfl) rfl rfl (iW rfl rfl) (TX.send1 1 rfl (ab rfl) rfl rfl rfl rfl rfl rfl (by simp only[ag,bN,bq];omega) (JX (af ?_)))))))))));refine ac J12 (ad (AD ?_));refine PS ?_;refine ap ?_
 exact aJ ((k+1):(Nat)) (by omega) (by show us.length- (k+1)<us.length-k;omega)
   (aX (aX (bC rfl (by first|exact Ii (by omega) hku|exact Ig (by omega)) SB)))
   (λ_ q=>by
      rw[Bc hku]at q
      exact q)
 obtain rfl:k=us.length:=by omega
 have hpos:0<ls.length:=by omega
 have hg:ls.getD 0 []=ls[0]:=by simp[List.getD_eq_getElem?_getD,hpos]
 refine ce (H':=[aj b [(.chan (some c))] 184,dR c 8 us (s+us.length) (r+us.length),ei us ls 5]) (λ_ q=>by simpa using q) (nx J10 (aa λ_ J17=>CN (aV (ay (ay (bh (ac J8 (sr λ_ J18=>P2 ?_))))))))
 refine dM (ab rfl) rfl rfl rfl H5 rfl (Ah b c (s+us.length) (r+us.length) us (BM us.length (us.getD 0 undef)) (ls.getD 0 []) (hb _ (hg▸eW hpos)) (by omega)) (λ_ s=>s) (λg d s=>by
          rw[Ih (by omega),hg]
          exact IS (tj 0 hpos rfl rfl g d s)) (λvR HR hR=>?_)
 obtain⟨rfl,un,rfl⟩:=hR;refine PS ?_;refine nx J18 (ah (WK [0,0,1,0] (av rfl rfl ?_)));exact .inr ⟨by omega,by omega,rfl,un,rfl⟩
theorem xI(b:Nat)(ls:List (List UInt8))(h8:ls.length≤8)(hb: ∀x∈ls,x.length≤1000000):DT 78 #[.pointer (some ⟨b,0,none⟩)] T0 [gE 184 5 b ls] (RI (.bool (Hb ls)) [gE 184 5 b (CK ls)]):=
 Leg.Does.pack (B:=[]) λq=>Leg.Does.fold (wW b q.1 q.2.2.1 q.2.2.2 q.2.1 ls h8 hb) λe H hp=>by
  cases e with
  |returned v=>
   unfold Hb CK;rcases hp with⟨h,rfl,rfl⟩| ⟨h1,h2,rfl,un,rfl⟩
   · exact⟨[gE 184 5 b ls],λ_ s=>bo (p:=λq:Nat×List Value×Nat×Nat=>[aj b [.chan (some q.1)] 184,dR q.1 8 q.2.1 q.2.2.1 q.2.2.2,ei q.2.1 ls 5]) (H:=[]) q s,by rw[decide_eq_false (by omega)],by rw[if_neg (by omega)]⟩
   · refine⟨[gE 184 5 b (ls++[ls.getD 0 []])],λ_ s=>?_,by rw[decide_eq_true (by omega)],by rw[if_pos (by omega)];rfl⟩
     have s1:=zm 3 rfl rfl s;have s2:=aA [2,2] rfl s1;have s3:=tv s2;exact bo (p:=λq:Nat×List Value×Nat×Nat=>[aj b [.chan (some q.1)] 184,dR q.1 8 q.2.1 q.2.2.1 q.2.2.2,ei q.2.1 (ls++[ls.getD 0 []]) 5]) (H:=[]) (q.1,q.2.1++[un],q.2.2.1+q.2.1.length+1,q.2.2.2+q.2.1.length) (aA [1,1,0] rfl s3)
  |panicked c=>exact hp.elim
  |outgrown=>exact hp.elim
theorem sA(b:Nat)(ls:List (List UInt8))(h8:ls.length≤8)(hb: ∀x∈ls,x.length≤1000000):
 DT 79 #[(.pointer (some ⟨b,0,none⟩))] T0 [gE 184 5 b (ls)] (c9 (λv H=>H=[gE 184 5 b (rB ls)])):=by
 refine BD 16 Tryz.func79 rfl rfl rfl λw0 F hF=>sr λ_ J1=>PS ?_
 refine nx J1 (sr λ_ J2=>PS ?_);refine CR Kp (sB b ls) ID λvR HR hR=>?_
 rcases hR with⟨rfl,rfl,rfl⟩| ⟨u,f,lt,rfl,rfl,rfl⟩
 refine P4 ?_;refine PS ?_;refine nx J2 (sr λ_ J3=>P2 ?_)
 iterate 3 refine UF ?_
 refine P2 ?_;exact nx J3 (ah (WK [0] (av rfl rfl rfl)));refine P4 ?_;refine PS ?_;refine nx J2 (sr λ_ J4=>P4 ?_);refine CF H5 (um b lt u f (hb f (mW ..))) ID (λg d s=>IS (zR 0 rfl rfl g d s)) ?_;refine P2 ?_;refine nx J4 (ah (WK [0] (av rfl rfl ?_)));exact congrArg (λq=>[gE 184 5 b q]) (if_pos (show lt.length<8 by have:=h8;rw[aw]at this;omega))
end Go.Proofs.YtfocodjhmkokpaaGreatDoor
end

section
namespace Leg
open Go
def RdG(S:World→Prop)(b:Nat){α:Type}(c:α→List Value)(T:TypeId):Prop:=∀w,S w→∃a,w.heap[b]?=some (.cells (c a).toArray T (0,0))
abbrev hid{α:Type}(b:Nat)(c:α→List Value)(T:TypeId)(R:α→List HP):HP:=pack (λa=>aj b (c a) T::R a)
section
variable {P:Program} {w0:World} {F:Hl} {n:Nat} {ops:Array Oper} {Q:QQ} {D:List Deferred} {L:List (Nat×Value)} {H:List HP} {o:Oper} {l:List Oper} {d:Nat} {S:World→Prop} {α:Type} {b j:Nat} {c c':α→List Value} {T:TypeId} {R R':α→List HP}
theorem Sat.packOpen{p:α→List HP}{w:World}(i:Nat)(s:Sat H F w)(hi:i<H.length)(hH:H.getD i (λ_=>True)=pack p): ∃a,Sat (p a++H.eraseIdx i) F w:=by
 obtain⟨h,d,e,x⟩:=s;have y:=dV i hi x;rw[hH]at y;obtain⟨a,z⟩:=e5 (p:=p) (H:=H.eraseIdx i) (h:=h) y;exact⟨a,h,d,e,z⟩
theorem Sat.packShut{p:α→List HP}{w:World}(i:Nat)(hi:i<H.length)(a:α)(s:Sat (p a++H.eraseIdx i) F w):Sat (H.set i (pack p)) F w:=by
 obtain⟨h,d,e,x⟩:=s;exact⟨h,d,e,jL i hi (bo a x)⟩
theorem RdG.own(i:Nat)(hi:Nat.blt i H.length=true)(hH:H.getD i (λ_=>True)=hid b c T R):RdG (Sat H F) b c T:=λw s=>by
 obtain⟨a,t⟩:=s.packOpen i (lb hi) hH;exact⟨a,t.block 0 (by simp) rfl⟩
abbrev cR:= @RdG.own
theorem PV.load1G{t:TypeId}{x:Operand}{dt:TypeDesc}{v:Value}(ho:o.op= .load t x)(ht:P.underlying t=some dt)(hp:eb dt=true)(hx:cE L x=some (.pointer (some ⟨b,j,none⟩)))(hR:RdG S b c T)(hc: ∀a,(c a)[j]?=some v):PV P n D L S o v:=
 λa w f m=>by
  obtain⟨y,hy⟩:=hR w m;exact ek (S:=λw'=>w'=w) ho ht hp hx (λ_ e=>e▸hy) (hc y) a w f rfl
abbrev c7:= @PV.load1G
theorem PV.loadNG{t:TypeId}{x:Operand}{dt:TypeDesc}{m:Nat}{vs:List Value}(ho:o.op= .load t x)(ht:P.underlying t=some dt)(hp:eb dt=false)(hm:(P.info? t).map (·.size)=some m)(hx:cE L x=some (.pointer (some ⟨b,j,none⟩)))(hR:RdG S b c T)(hl:vs.length=m)(hc: ∀a,((c a).drop j).take m=vs):PV P n D L S o (.agg vs.toArray):=
 λa w f s=>by
  obtain⟨y,hy⟩:=hR w s;exact aK (S:=λw'=>w'=w) ho ht hp hm hx (λ_ e=>e▸hy) hl (hc y) a w f rfl
abbrev fU:= @PV.loadNG
theorem TL.storeG{i:Nat}{t:TypeId}{x y:Operand}{v:Value}{vs:List Value}(hw:Want n D ops o L)(ho:o.op= .store t x y)(hd:o.dst=none)
 (hx:cE L x=some (.pointer (some ⟨b,j,none⟩))) (hy:cE L y=some v) (hv:v.cells=vs.toArray) (hs:(P.info? t).map (·.size)=some vs.length) (h1: ∀u∈vs,u.oneCell'=true)
 (hi:Nat.blt i H.length=true) (hH:H.getD i (λ_=>True)=hid b c T R) (hl: ∀a,j+vs.length≤(c a).length) (hcs: ∀a,wr (c a) j vs=c' a)
 (h:TL P w0 F n ops Q l D L (H.set i (hid b c' T R))):TL P w0 F n ops Q (o::l) D L H:=
 TL.eff hw hd (λa w f _ m=>by
  obtain⟨q,m1⟩:=m.packOpen i (lb hi) hH;have hb:=m1.block 0 (by simp) rfl;refine⟨w.setRow b (wr (c q) j vs).toArray,by simp[execOp,ho,f.eval hx,f.eval hy,vJ hv hs h1 hb (hl q)],⟨rfl,rfl,rfl,by simp⟩,?_⟩;rw[hcs q]
  exact Sat.packShut (p:=λa=>aj b (c' a) T::R a) i (lb hi) q (m1.write 0 (by simp) rfl (setRow_heap w b (c q).toArray _ T _ hb) (λk hk=>setRow_other w b k _ hk))) h
abbrev gI:= @TL.storeG
theorem TL.store1G{i:Nat}{t:TypeId}{x y:Operand}{v:Value}(hw:Want n D ops o L)(ho:o.op= .store t x y)(hd:o.dst=none)
 (hx:cE L x=some (.pointer (some ⟨b,j,none⟩))) (hy:cE L y=some v) (h1:v.oneCell'=true) (hs:(P.info? t).map (·.size)=some 1)
 (hi:Nat.blt i H.length=true) (hH:H.getD i (λ_=>True)=hid b c T R) (hl: ∀a,j< (c a).length) (hcs: ∀a,(c a).set j v=c' a)
 (h:TL P w0 F n ops Q l D L (H.set i (hid b c' T R))):TL P w0 F n ops Q (o::l) D L H:=
 gI (vs:=[v]) hw ho hd hx hy (by cases v<;>simp[Value.cells,Value.oneCell']at h1 ⊢) hs (by simpa using h1) hi hH (λa=>by have:=hl a;simp;omega)
  (λa=>by rw[←hcs a,wr,nj,if_pos (hl a)];simp) h
theorem Fz{p p' a b c d:HP}{h:Hl}(e: ∀h,p h→p' h)(s:bK (a::b::c::d::p::H) h):bK (a::b::c::d::p'::H) h:=
 cD s (λ_ x=>x) λ_ s=>cD s (λ_ x=>x) λ_ s=>cD s (λ_ x=>x) λ_ s=>cD s (λ_ x=>x) λ_ s=>cD s e λ_ x=>x
theorem Does.hid{f:FuncId}{args:Array Value}{A:List HP}{q:Value→Prop}(h: ∀a,Does P f args (λ_=>True) (aj b (c a) T::A) (c9 λv H=>q v∧H=aj b (c' a) T::A)):Does P f args (λ_=>True) (Leg.hid b c T R::A) (c9 λv H=>q v∧H=Leg.hid b c' T R::A):=
 Does.pack λa=>Does.withinR (B:=R a) (h a) (λ_ _ _ _=>trivial) (λ_ s=>dY (List.Perm.cons (aj b (c a) T) (List.perm_append_comm (l₁:=R a) (l₂:=A))) s) λv H hp=>by
  obtain⟨h1,rfl⟩:=hp;exact⟨_,λ_ s=>bo (p:=λa=>aj b (c' a) T::R a) a (dY (List.Perm.cons (aj b (c' a) T) (List.perm_append_comm (l₁:=A) (l₂:=R a))) s),h1,rfl⟩
end
open Api
variable {P:Program} {w0:World} {F:Hl} {n:Nat} {ops:Array Oper} {Q:QQ} {D:List Deferred} {L:List (Nat×Value)} {H:List HP} {d:Nat} {o:Oper} {l:List Oper}
section
variable {A:Type} {b:Nat} {c:A→List Value} {T:TypeId} {R:A→List HP}
theorem LG{t:TypeId}{x:Operand}{dt:TypeDesc}{j:Nat}(k:Nat)(ht:P.underlying t=some dt)(v:Value)(h:TL P w0 F n ops Q l D ((d,v)::L) H)(hw:Want n D ops o L:=by first|exact ab rfl|exact ci rfl rfl rfl)(hd:o.dst=some d:=by exact rfl)(hn:Nat.blt d n=true:=by exact rfl)(ho:o.op= .load t x:=by exact rfl)(hp:eb dt=true:=by exact rfl)(hx:cE L x=some (.pointer (some ⟨b,j,none⟩)):=by exact rfl)(hk:Nat.blt k H.length=true:=by exact rfl)(hH:H.getD k (λ_=>True)=hid b c T R:=by exact rfl)(hc: ∀a,(c a)[j]?=some v):TL P w0 F n ops Q (o::l) D L H:=ly hw hd hn (c7 ho ht hp hx (cR k hk hH) hc) h
theorem LZ{α:Type}{f:α→List Int}{t:TypeId}{x:Operand}{dt:TypeDesc}{j m:Nat}(k:Nat)(ht:P.underlying t=some dt)(hs:(P.info? t).map (·.size)=some m)(hf: ∀x,(ints (f x)).length=m)(y:α)(h:TL P w0 F n ops Q l D ((d, .agg (ints (f y)).toArray)::L) H)(hw:Want n D ops o L:=by first|exact ab rfl|exact ci rfl rfl rfl)(hd:o.dst=some d:=by exact rfl)(hn:Nat.blt d n=true:=by exact rfl)(ho:o.op= .load t x:=by exact rfl)(hp:eb dt=false:=by exact rfl)(hx:cE L x=some (.pointer (some ⟨b,j,none⟩)):=by exact rfl)(hk:Nat.blt k H.length=true:=by exact rfl)(hH:H.getD k (λ_=>True)=hid b c T R:=by exact rfl)(hc: ∀a,((c a).drop j).take m=ints (f y)):TL P w0 F n ops Q (o::l) D L H:=ly hw hd hn (fU ho ht hp hs hx (cR k hk hH) (hf y) hc) h
theorem SK{o:Oper}{l:List Oper}{t:TypeId}{x y:Operand}{j m:Nat}{v:Value}{c':A→List Value}(k:Nat)(hs:(P.info? t).map (·.size)=some 1)(hl: ∀a,(c a).length=m)(h:TL P w0 F n ops Q l D L (H.set k (hid b c' T R)))(hw:Want n D ops o L:=by first|exact ab rfl|exact ci rfl rfl rfl)(hd:o.dst=none:=by exact rfl)(ho:o.op= .store t x y:=by exact rfl)(hx:cE L x=some (.pointer (some ⟨b,j,none⟩)):=by exact rfl)(hy:cE L y=some v:=by exact rfl)(h1:v.oneCell'=true:=by exact rfl)(hk:Nat.blt k H.length=true:=by exact rfl)(hH:H.getD k (λ_=>True)=hid b c T R:=by exact rfl)(hj:Nat.blt j m=true:=by first|exact rfl|exact Nat.ble_eq_true_of_le (by omega))(hc: ∀a,(c a).set j v=c' a):TL P w0 F n ops Q (o::l) D L H:=TL.store1G hw ho hd hx hy h1 hs hk hH (λa=>(hl a)▸lb hj) hc h
end
end Leg
end

section
namespace Go.Proofs.YtfocodjhmkokpaaGreatDoor
open Go Leg Codec Api Dsk Wal
structure Env(δ:Type) extends Dk δ where
 T:Nat
 ov:Value
 sf:Nat
 E:δ→List SaidT→HP
 lg:Nat→δ→HP
 me : xd Tryz.prog T ov "Send" sf
 nm:Named Tryz.prog sf
 say: ∀(e:δ) (l:List SaidT) (to':Int) (m:MsgT),ok e→Leg.Does Tryz.prog sf #[ov, .int .i64 to', .agg (ints m.flat).toArray] (λ_=>True) [E e l] (c9 (λ_ H=>H=[E e (if dn e then l else l++[SaidT.mk to' m])]))
 put: ∀(g:Nat) (x:Value) (bs:List UInt8) (e:δ) (l:List SaidT),ok e→bs.length≤3000→Leg.Does Tryz.prog 155 #[.pointer (some ⟨g,0,none⟩),x] (IsW x bs) [lg g e,E e l] (c9 (λv H=>v= .int .i64 (pt e bs).2∧H=[lg g (pt e bs).1,E (pt e bs).1 l]))
def Er(vo:Value):Option VoteT→HP
 |none=>λ_=>vo= .pointer none
 |some vt=>λh=>∃b,vo= .pointer (some ⟨b,0,none⟩)∧aj b (VoteT.cells vt) 207 h
abbrev cH{δ:Type}(V:Env δ)(r:Nat)(s:MS δ):HP:=hid r (λa:Adr=>RepT.cells (s.rep a)) 87 (λa=>[V.lg a.lg s.e,own a.rs s.replies.length (ints (s.replies.flatMap ReplyT.flat)) 47 3,Er a.vo s.vote,V.E s.e s.o])
abbrev uT{δ:Type}(V:Env δ)(r:Nat)(s:MS δ)(vo:Value):HP:=hid r (λa:Nat×Value=>RepT.cells (s.rep ⟨a.1,vo,a.2⟩)) 87 (λa=>[V.lg a.1 s.e,own a.2 s.replies.length (ints (s.replies.flatMap ReplyT.flat)) 47 3,V.E s.e s.o])
theorem jm{δ:Type}{V:Env δ}{r:Nat}{f:MS δ×Int}{X:MS δ}{y:Int}(e:f=(X,y)):Value.int .i64 y= .int .i64 f.2∧[cH V r X]=[cH V r f.1]:=by
 subst e;exact⟨rfl,rfl⟩
theorem FJ{δ:Type}(V:Env δ)(r:Nat)(s:MS δ)(to':Int)(m:MsgT)[hs:OkR V.toDk s]:DT V.sf #[V.ov, .int .i64 to', .agg (ints m.flat).toArray] T0 [cH V r s] (c9 (λ_ H=>H=[cH V r (Da V.toDk s to' m)])):=
 Leg.Does.pack λa=>Leg.Does.withinR (V.say s.e s.o to' m hs.e) (λ_ _ _ _=>trivial) (λ_ q=>aA [4] rfl q) λv H hp=>by
  subst hp;refine⟨_,λ_ q=>?_,rfl⟩;have q2:=aA [1,1,1,1,0] rfl q;exact bo (p:=λa:Adr=>[aj r (RepT.cells (s.rep a)) 87,V.lg a.lg s.e,own a.rs s.replies.length (ints (s.replies.flatMap ReplyT.flat)) 47 3,Er a.vo s.vote,V.E s.e (if V.dn s.e then s.o else s.o++[SaidT.mk to' m])]) a q2
theorem fZ{δ:Type}(V:Env δ)(r:Nat)(s:MS δ)(to':Int)(m:MsgT)(f:MS δ→MS δ)(hT:to'=s.id→DT 82 #[.pointer (some ⟨r,0,none⟩), .iface V.T V.ov, .int .i64 s.id, .agg (ints m.flat).toArray] T0 [cH V r s] (c9 (λ_ H=>H=[cH V r (f s)])))[OkR V.toDk s]:
 DT 128 #[(.pointer (some ⟨r,0,none⟩)),(.iface V.T V.ov),(.int .i64 (to')),(.agg (ints m.flat).toArray)] T0 [cH V r s] (c9 (λ_ H=>H=[cH V r (m4 V.toDk f s to' m)])):=by
 refine Leg.Does.body (vs:=[(.pointer (some ⟨r,0,none⟩)),(.iface V.T V.ov),(.int .i64 (to')),(.agg (ints m.flat).toArray)]) (n:=28) Tryz.func128 rfl rfl rfl (λw0 F hF=>?_);refine sr λ_ J1=>?_
 refine TL.box (ab rfl) rfl rfl rfl rfl (λb7=>?_);change TL _ _ _ _ _ _ _ _ _ [aj b7 (ints m.flat) 163,cH V r s];refine nx J1 ?_;refine aa λ_ J2=>?_
 refine sr λ_ J3=>?_
 refine mv ?_;refine mv ?_;refine tp (eR rfl rfl) ?_;refine tp (aW (r:=0) rfl cW rfl aO rfl rfl) ?_;refine tp (c7 (v:=(.int .i64 (s.id))) rfl Y3 rfl rfl (cR 1 rfl rfl) (λa_=>(cF (s.rep a_) rfl))) ?_;refine tp (xV rfl rfl rfl) ?_;refine ao (λh13=>?_) (λh13=>?_);refine nx J3 ?_;refine jD rfl ?_;refine aa λ_ J4=>?_
 refine oX (λw=>Frm F w∧w.heap[b7]?=some (.cells (ints m.flat).toArray 163 (0,0))∧True) bf rfl (λ_ s=>⟨dG s,s.block 0 (lb rfl) rfl,trivial⟩) ?_;refine ta 0 rfl (iW rfl rfl) ?_;refine ta 1 rfl (iW rfl rfl) ?_;refine ta 2 rfl (iW rfl rfl) ?_;refine ta 3 rfl (eR rfl rfl) ?_;refine ta 4 rfl (aW (r:=0) rfl cW rfl aO rfl rfl) ?_;refine ta 6 rfl (aK (vs:=ints m.flat) rfl bd rfl cf rfl (λ_ h=>h.2.1) (aG m) (whole (aG m))) ?_;refine cx [5] (by kernel_rfl) rfl ?_;refine aE rfl ?_ ?_;refine tp (c7 (v:=(.int .i64 (s.id))) rfl Y3 rfl rfl (cR 1 rfl rfl) (λa_=>(cF (s.rep a_) rfl))) ?_;refine ap ?_;refine ka (λ_ s=>⟨dG s,s.block 0 (lb rfl) rfl,trivial⟩) ?_;refine cx [7] (by kernel_rfl) rfl ?_;refine aE rfl ?_ ?_;refine dM (ab rfl) rfl rfl rfl Mj rfl ((by have h:=hT h13;exact h)) (λ_ s=>aA [1] rfl s) (λ_ _ _=>trivial) (λvR HR hR=>?_);obtain rfl:=hR;refine ap ?_;refine ka (λ_ s=>⟨dG s,s.block 1 (lb rfl) rfl,trivial⟩) ?_;refine O5 (by kernel_rfl) ?_;refine ac J4 ?_;refine ah ?_;refine ae ?_;refine aF (cZ _) (λ_ s=>ak [0] rfl s) ?_;refine dx rfl ?_;exact(congrArg (λq=>[cH V r q]) (if_pos h13)).symm;exact bz;exact bz;refine nx J3 ?_;refine nN rfl ?_;refine aM ?_;refine ac J2 ?_;refine sr λ_ J5=>?_
 refine mv ?_;refine tp (PV.ifaceNotNil rfl Tryz.underlying152 rfl) ?_;refine nx J5 ?_;refine jD rfl ?_;refine ad ?_;refine mv ?_;refine mv ?_;refine tp (aK (vs:=ints m.flat) rfl bd rfl cf rfl (du 0 rfl rfl) (aG m) (whole (aG m))) ?_;refine TL.callI (ab rfl) rfl rfl rfl rfl V.me V.nm rfl (FJ V r s to' m) (λ_ s=>aA [1] rfl s) (λ_ _ _=>trivial) (λvR HR hR=>?_);obtain rfl:=hR;refine ap ?_;refine aF (cZ _) (λ_ s=>ak [0] rfl s) ?_;refine br rfl ?_;exact(congrArg (λq=>[cH V r q]) (if_neg h13)).symm
theorem jb{δ:Type}(V:Env δ)(r:Nat)(s:MS δ)(to':Int)(m:MsgT)(hto:to'≠s.id)[OkR V.toDk s]:DT 128 #[.pointer (some ⟨r,0,none⟩), .iface V.T V.ov, .int .i64 to', .agg (ints m.flat).toArray] T0 [cH V r s] (c9 (λ_ H=>H=[cH V r (iA V.toDk s [⟨to',m⟩])])):=by
 have h:=fZ V r s to' m id (λe=>absurd e hto)
 rwa [show m4 V.toDk id s to' m=iA V.toDk s [⟨to',m⟩]from if_neg hto]at h
theorem nv{δ:Type}(V:Env δ)(r:Nat)(s:MS δ)(l:List SaidT)(to':Int)(m:MsgT)(hto:to'≠s.id)[OkR V.toDk s]:DT 128 #[.pointer (some ⟨r,0,none⟩), .iface V.T V.ov, .int .i64 to', .agg (ints m.flat).toArray] T0 [cH V r (iA V.toDk s l)] (c9 (λ_ H=>H=[cH V r (iA V.toDk s (l++[⟨to',m⟩]))])):=by
 have h:=jb V r (iA V.toDk s l) to' m hto
 rwa [Hs]at h
theorem MQ{δ:Type}{V:Env δ}{r:Nat}{a b:MS δ}(h:a=b):[cH V r a]=[cH V r b]:=by rw[h]
theorem nc{δ:Type}(V:Env δ)(r:Nat)(s:MS δ)[OkR V.toDk s]:
 DT 83 #[(.pointer (some ⟨r,0,none⟩)),(.iface V.T V.ov)] T0 [cH V r s] (c9 (λ_ H=>H=[cH V r (fk V.toDk s)])):=by
 refine BD 40 Tryz.func83 rfl rfl rfl λw0 F hF=>?_
 have hid:cy s.id=true:=OkR.id;have hid2:0≤s.id∧s.id<5:=of_decide_eq_true hid;refine aa λ_ J1=>DB bf (cR 0 rfl rfl) ?_
 refine PD 0 ?_;refine PD 1 ?_;refine FD 2 0 cW aO ?_;refine ta 3 rfl (c7 (v:=(.int .i64 (s.id))) rfl Y3 rfl rfl (λ_ h=>h.2.1) (λa_=>(cF _ rfl))) ?_;refine PD 4 ?_;refine PD 5 ?_;refine FD 6 9 cW ba ?_;refine ta 7 rfl (fU (vs:=ints s.own.flat) rfl dI rfl ba rfl (λ_ h=>h.2.1) (ai s.own) (λa_=>(xO (s.rep a_) 0 rfl (by decide) (whole (ai ((s.rep a_).own)))))) ?_;refine ta 8 rfl (ke MsgT.zero (MsgT.mk 0 s.id s.own 0 0 BallotT.zero BallotT.zero ChangeT.zero ViewT.zero) [(0,[Value.int .i64 0]),(1,[Value.int .i64 s.id]),(2,ints s.own.flat)] bd bw (g:=MsgT.sg)) ?_;refine AL 9 ?_;refine XZ lX (ints MsgT.zero.flat) λb4=>?_
 refine EN (AL 10 ?_);refine SW 0 cf aG ?_;refine EN (DN (ac J1 (sr λ_ J2=>P2 ?_)));refine FA 0 cW aO ?_;refine LG 1 Y3 (.int .i64 (s.id)) ?_ (hc:=by exact λa_=>(cF _ rfl));refine CR Bu (pX s.id hid) ID λvR HR hR=>?_
 obtain⟨_,rfl,rfl⟩:=hR;revert vR;intro uw;refine gj 0 rfl rfl (λhluw _=>ij 0 rfl rfl (by omega) (λgw capw hvw hcapw=>tp (c8 rfl ii rfl hluw) ?_));refine PS ?_;refine nx J2 (am (gK 2 (sr λ_ J3=>PS ?_)));refine nx J3 (aa λ_ J4=>CY (qx J4 (aa λ_ J5=>am (sr λ_ J6=>tp (bg (r:=0) hvw rfl ii aO rfl rfl (by omega) (by omega) rfl) ?_))));refine tp (bZ (v:=(.int .i64 (((s.id+1)%5)))) rfl Y3 rfl rfl (fI 0 rfl hvw rfl) rfl) ?_;refine PS ?_;refine nx J6 (sr λ_ J7=>P2 ?_);refine FA 1939 cW aO ?_;refine LG 2 Y3 (.int .i64 (s.kept)) ?_ (hc:=by exact λa_=>(ra _ rfl));refine PS ?_;refine tp (gM (r:=(s.kept.fdiv (2^min (((s.id+1)%5)).toNat IntKind.i64.bits))) rfl rfl rfl (by omega) rfl) ?_;refine tp (iD (r:=((s.kept.fdiv (2^min (((s.id+1)%5)).toNat IntKind.i64.bits))%2)) rfl rfl rfl (mask (k:=1) (by decide) _)) ?_;refine PS ?_;refine ao ?_ ?_<;>intro h33;refine nx J7 (CY (ad (P3 ?_)));refine LW 1 bd cf aG ?_;refine CZ iN (jb V r s ((s.id+1)%5) (MsgT.mk 0 s.id s.own 0 0 BallotT.zero BallotT.zero ChangeT.zero ViewT.zero) (by omega)) (SM [2]) λvR=>?_
 refine ap (af (ac J5 (ad (tp (bv (r:=1) rfl rfl rfl (by decide)) ?_))));refine PS ?_;refine ap (bH (sr λ_ J8=>PS ?_));refine nx J8 (aa λ_ J9=>CY (qx J9 (aa λ_ J10=>am (sr λ_ J11=>tp (bg (r:=1) hvw rfl ii aO rfl rfl (by omega) (by omega) rfl) ?_))));refine tp (bZ (v:=(.int .i64 (((s.id+2)%5)))) rfl Y3 rfl rfl (fI 1 rfl hvw rfl) rfl) ?_;refine PS ?_;refine nx J11 (sr λ_ J12=>P2 ?_);refine FA 1939 cW aO ?_;refine LG 0 Y3 (.int .i64 (s.kept)) ?_ (hc:=by exact λa_=>(ra _ rfl));refine PS ?_;refine tp (gM (r:=(s.kept.fdiv (2^min (((s.id+2)%5)).toNat IntKind.i64.bits))) rfl rfl rfl (by omega) rfl) ?_;refine tp (iD (r:=((s.kept.fdiv (2^min (((s.id+2)%5)).toNat IntKind.i64.bits))%2)) rfl rfl rfl (mask (k:=1) (by decide) _)) ?_;refine PS ?_;refine ao ?_ ?_<;>intro h33;refine nx J12 (CY (ad (P3 ?_)));refine LW 2 bd cf aG ?_;refine CZ iN (nv V r s ([SaidT.mk ((s.id+1)%5) (MsgT.mk 0 s.id s.own 0 0 BallotT.zero BallotT.zero ChangeT.zero ViewT.zero)]) ((s.id+2)%5) (MsgT.mk 0 s.id s.own 0 0 BallotT.zero BallotT.zero ChangeT.zero ViewT.zero) (by omega)) ID λvR=>?_
 refine ap (af (ac J10 (ad (tp (bv (r:=2) rfl rfl rfl (by decide)) ?_))));refine PS ?_;refine ap (bH (sr λ_ J13=>PS ?_));refine nx J13 (aa λ_ J14=>CN (aV (ay (ay (bh (WK [0] (br rfl ?_)))))));exact MQ (by rw[fk,show pg (s.rep .nil)=[SaidT.mk ((s.id+1)%5) (MsgT.mk 0 s.id s.own 0 0 BallotT.zero BallotT.zero ChangeT.zero ViewT.zero)]++[SaidT.mk ((s.id+2)%5) (MsgT.mk 0 s.id s.own 0 0 BallotT.zero BallotT.zero ChangeT.zero ViewT.zero)]by rw[pg,gL,if_pos hid];simp[Ak,vM,MsgT.zero,Adr.nil, *]]);refine nx J12 (CN (aM (af (ac J10 (ad (tp (bv (r:=2) rfl rfl rfl (by decide)) ?_))))));refine PS ?_;refine ap (bH (sr λ_ J15=>PS ?_));refine nx J15 (aa λ_ J16=>CN (aV (ay (ay (bh (WK [0] (br rfl ?_)))))));exact MQ (by rw[fk,show pg (s.rep .nil)=[SaidT.mk ((s.id+1)%5) (MsgT.mk 0 s.id s.own 0 0 BallotT.zero BallotT.zero ChangeT.zero ViewT.zero)]by rw[pg,gL,if_pos hid];simp[Ak,vM,MsgT.zero,Adr.nil, *]]);refine nx J7 (CN (aM (af (ac J5 (ad (tp (bv (r:=1) rfl rfl rfl (by decide)) ?_))))));refine PS ?_;refine ap (bH (sr λ_ J17=>PS ?_));refine nx J17 (aa λ_ J18=>CY (qx J18 (aa λ_ J19=>am (sr λ_ J20=>tp (bg (r:=1) hvw rfl ii aO rfl rfl (by omega) (by omega) rfl) ?_))));refine tp (bZ (v:=(.int .i64 (((s.id+2)%5)))) rfl Y3 rfl rfl (fI 0 rfl hvw rfl) rfl) ?_;refine PS ?_;refine nx J20 (sr λ_ J21=>P2 ?_);refine FA 1939 cW aO ?_;refine LG 2 Y3 (.int .i64 (s.kept)) ?_ (hc:=by exact λa_=>(ra _ rfl))
 refine PS ?_;refine tp (gM (r:=(s.kept.fdiv (2^min (((s.id+2)%5)).toNat IntKind.i64.bits))) rfl rfl rfl (by omega) rfl) ?_;refine tp (iD (r:=((s.kept.fdiv (2^min (((s.id+2)%5)).toNat IntKind.i64.bits))%2)) rfl rfl rfl (mask (k:=1) (by decide) _)) ?_;refine PS ?_;refine ao ?_ ?_<;>intro h33;refine nx J21 (CY (ad (P3 ?_)));refine LW 1 bd cf aG ?_;refine CZ iN (jb V r s ((s.id+2)%5) (MsgT.mk 0 s.id s.own 0 0 BallotT.zero BallotT.zero ChangeT.zero ViewT.zero) (by omega)) (SM [2]) λvR=>?_
 refine ap (af (ac J19 (ad (tp (bv (r:=2) rfl rfl rfl (by decide)) ?_))));refine PS ?_;refine ap (bH (sr λ_ J22=>PS ?_));refine nx J22 (aa λ_ J23=>CN (aV (ay (ay (bh (WK [0] (br rfl ?_)))))));exact MQ (by rw[fk,show pg (s.rep .nil)=[SaidT.mk ((s.id+2)%5) (MsgT.mk 0 s.id s.own 0 0 BallotT.zero BallotT.zero ChangeT.zero ViewT.zero)]by rw[pg,gL,if_pos hid];simp[Ak,vM,MsgT.zero,Adr.nil, *]]);refine nx J21 (CN (aM (af (ac J19 (ad (tp (bv (r:=2) rfl rfl rfl (by decide)) ?_))))));refine PS ?_;refine ap (bH (sr λ_ J24=>PS ?_));refine nx J24 (aa λ_ J25=>CN (aV (ay (ay (bh (WK [2] (br rfl ?_)))))));exact MQ (by rw[fk,show pg (s.rep .nil)=[]by rw[pg,gL,if_pos hid];simp[Ak,vM,MsgT.zero,Adr.nil, *]];exact(po _ _).symm)
theorem mw{δ:Type}(V:Env δ)(r:Nat)(s:MS δ)(y:RowT)[OkR V.toDk s]:
 DT 88 #[(.pointer (some ⟨r,0,none⟩)),(.iface V.T V.ov),(.agg (ints y.flat).toArray)] T0 [cH V r s] (c9 (λ_ H=>H=[cH V r (mi V.toDk s y)])):=by
 refine BD 27 Tryz.func88 rfl rfl rfl λw0 F hF=>sr λ_ J1=>XY (ints y.flat) λb5=>?_
 refine nx J1 (sr λ_ J2=>PS ?_);refine nx J2 (am ?_)
 refine bu (α:=(Nat)) (λk=>k≤5) (λk=>[(0,(.pointer (some ⟨r,0,none⟩))),(1,(.iface V.T V.ov)),(5,(.pointer (some ⟨b5,0,none⟩))),(7,(.int .i64 (((k:Nat):Int))))]) (λk=>[aj b5 (ints y.flat) 39,cH V r (iA V.toDk s (nA s.id (rW s.id y) (λ_=>true) k))]) (λk=>5-k) 0
  (aN _) SB
  (λ_ q=>by
  rw[show nA s.id (rW s.id y) (λ_=>true) 0=[]from rfl,po]
  exact q) (λk hinv=>?_)
 obtain hk:=hinv;refine sr λ_ J3=>PS ?_
 refine ao ?_ ?_<;>intro h8;refine nx J3 (aa λ_ J4=>CY (qx J4 (aa λ_ J5=>am (sr λ_ J6=>P2 ?_))));refine nx J6 (sr λ_ J7=>P3 ?_);refine FA 0 cW aO ?_;refine LG 1 Y3 (.int .i64 (s.id)) ?_ (hc:=by exact λa_=>(cF _ rfl));refine PS ?_;refine ao ?_ ?_<;>intro h15;refine nx J7 (CY (DC bf (cR 1 rfl rfl) (BL 0) ?_));refine PD 0 ?_;refine PD 1 ?_;refine PD 2 ?_;refine PD 3 ?_;refine PD 4 ?_;refine FD 5 0 cW aO ?_;refine ta 6 rfl (c7 (v:=(.int .i64 (s.id))) rfl Y3 rfl rfl (λ_ h=>h.2.1) (λa_=>(cF _ rfl))) ?_;refine LY 7 dI ba ai ?_;refine ta 8 rfl (ke MsgT.zero (MsgT.mk 2 s.id y 0 0 BallotT.zero BallotT.zero ChangeT.zero ViewT.zero) [(0,[Value.int .i64 2]),(1,[Value.int .i64 s.id]),(2,ints y.flat)] bd bw (g:=MsgT.sg)) ?_;refine AL 9 ?_;refine CZ iN (nv V r s (nA s.id (rW s.id y) (λ_=>true) k) ((k:Nat):Int) (MsgT.mk 2 s.id y 0 0 BallotT.zero BallotT.zero ChangeT.zero ViewT.zero) h15) (SM [1]) λvR=>?_
 refine EN (DN (af (ac J5 (ad (AD ?_)))));refine PS ?_;refine ap ?_
 exact aJ ((k+1):(Nat)) (by omega) (by show 5- (k+1)<5-k;omega)
  SB
  (λ_ q=>by
   rw[iq,if_pos ⟨h15,rfl⟩]
   exact ak [1,0] rfl q)
 refine nx J7 (CN (aM (af (ac J5 (ad (AD ?_))))));refine PS ?_;refine ap ?_
 exact aJ ((k+1):(Nat)) (by omega) (by show 5- (k+1)<5-k;omega)
  SB
  (λ_ q=>by
   rw[iq,if_neg (by omega)];rw[a8]
   exact ak [0,0] rfl q)
 refine nx J3 (aa λ_ J8=>CN (aV (ay (ay (bh (WK [1] (br rfl ?_)))))));obtain rfl:k=5:=by omega
 exact rfl
theorem mu{δ:Type}(V:Env δ)(r:Nat)(s:MS δ)(v:ViewT)[OkR V.toDk s]:
 DT 86 #[(.pointer (some ⟨r,0,none⟩)),(.iface V.T V.ov),(.agg (ints v.flat).toArray)] T0 [cH V r s] (c9 (λ_ H=>H=[cH V r (nr V.toDk s v)])):=by
 refine BD 23 Tryz.func86 rfl rfl rfl λw0 F hF=>sr λ_ J1=>XY (ints v.flat) λb5=>?_
 refine nx J1 (sr λ_ J2=>PS ?_);refine nx J2 (am ?_)
 refine bu (α:=(Nat)) (λk=>k≤5) (λk=>[(0,(.pointer (some ⟨r,0,none⟩))),(1,(.iface V.T V.ov)),(5,(.pointer (some ⟨b5,0,none⟩))),(7,(.int .i64 (((k:Nat):Int))))]) (λk=>[aj b5 (ints v.flat) 32,cH V r (iA V.toDk s (nA s.id (jJ v) (λ_=>true) k))]) (λk=>5-k) 0
  (aN _) SB
  (λ_ q=>by
  rw[show nA s.id (jJ v) (λ_=>true) 0=[]from rfl,po]
  exact q) (λk hinv=>?_)
 obtain hk:=hinv;refine sr λ_ J3=>PS ?_
 refine ao ?_ ?_<;>intro h8;refine nx J3 (aa λ_ J4=>CY (qx J4 (aa λ_ J5=>am (sr λ_ J6=>P2 ?_))));refine nx J6 (sr λ_ J7=>P3 ?_);refine FA 0 cW aO ?_;refine LG 1 Y3 (.int .i64 (s.id)) ?_ (hc:=by exact λa_=>(cF _ rfl));refine PS ?_;refine ao ?_ ?_<;>intro h15;refine nx J7 (CY (ad (P3 ?_)));refine LW 0 dS be an ?_;refine tp (ke MsgT.zero (MsgT.mk 7 0 RowT.zero 0 0 BallotT.zero BallotT.zero ChangeT.zero v) [(0,[Value.int .i64 7]),(8,ints v.flat)] bd bw (g:=MsgT.sg)) ?_;refine CZ iN (nv V r s (nA s.id (jJ v) (λ_=>true) k) ((k:Nat):Int) (MsgT.mk 7 0 RowT.zero 0 0 BallotT.zero BallotT.zero ChangeT.zero v) h15) (SM [1]) λvR=>?_
 refine ap (af (ac J5 (ad (AD ?_))));refine PS ?_;refine ap ?_
 exact aJ ((k+1):(Nat)) (by omega) (by show 5- (k+1)<5-k;omega)
  SB
  (λ_ q=>by
   rw[iq,if_pos ⟨h15,rfl⟩]
   exact ak [1,0] rfl q)
 refine nx J7 (CN (aM (af (ac J5 (ad (AD ?_))))));refine PS ?_;refine ap ?_
 exact aJ ((k+1):(Nat)) (by omega) (by show 5- (k+1)<5-k;omega)
  SB
  (λ_ q=>by
   rw[iq,if_neg (by omega)];rw[a8]
   exact ak [0,0] rfl q)
 refine nx J3 (aa λ_ J8=>CN (aV (ay (ay (bh (WK [1] (br rfl ?_)))))));obtain rfl:k=5:=by omega
 exact rfl
theorem FY{δ:Type}(V:Env δ)(r lg:Nat)(x:RepT)(m:RecT)(e:δ)(l:List SaidT)(hlog:x.log= .pointer (some ⟨lg,0,none⟩))(hok:V.ok e):
 DT 114 #[(.pointer (some ⟨r,0,none⟩)),(.agg (ints m.flat).toArray)] T0 [aj r (RepT.cells x) 87,V.lg lg e,V.E e l] (RI (.int .i64 (V.pt e (jX m)).2) [aj r (RepT.cells x) 87,V.lg lg (V.pt e (jX m)).1,V.E (V.pt e (jX m)).1 l]):=by
 refine BD 12 Tryz.func114 rfl rfl rfl λw0 F hF=>sr λ_ J1=>XY (ints m.flat) λb3=>?_
 refine PS ?_;refine nx J1 (aa λ_ J2=>D2 1 0 bf ?_);refine PD 0 ?_;refine PD 1 ?_;refine FD 2 1 cW NU ?_;refine LX 3 Tryz.underlying74 (.pointer (some ⟨lg,0,none⟩)) ?_ (hc:=by exact(RepT.at_log x rfl).trans (congrArg some hlog));refine LY 4 dT fE bp ?_;refine AL 5 ?_;refine CR ML (Be m) ID λvR HR hR=>?_
 obtain⟨_,rfl,rfl⟩:=hR;revert vR;intro ue;refine EN (AL 6 ?_);refine CF MM (V.put lg ue (jX m) e l hok (BX m)) (SM [3,3]) (λg d s=>IS (si 0 rfl rfl g d s)) ?_;refine EN (PD 7 ?_);exact DN (ac J2 (ah (WK [4,0,0] (av rfl rfl ⟨rfl,rfl⟩))))
theorem kN{δ:Type}(V:Env δ)(r:Nat)(s:MS δ)(m:RecT)[hs:OkR V.toDk s]:DT 114 #[.pointer (some ⟨r,0,none⟩), .agg (ints m.flat).toArray] T0 [cH V r s] (RI (.int .i64 (rT V.toDk s m)) [cH V r (dZ V.toDk s m)]):=
 Leg.Does.pack λa=>Leg.Does.withinR (FY V r a.lg (s.rep a) m s.e s.o rfl hs.e) (λ_ _ _ _=>trivial) (λ_ q=>aA [0,0,2] rfl q) λv H hp=>by
  obtain⟨h1,rfl⟩:=hp;exact⟨_,λ_ q=>bo (p:=λa:Adr=>[aj r (RepT.cells ((dZ V.toDk s m).rep a)) 87,V.lg a.lg (dZ V.toDk s m).e,own a.rs (dZ V.toDk s m).replies.length (ints ((dZ V.toDk s m).replies.flatMap ReplyT.flat)) 47 3,Er a.vo (dZ V.toDk s m).vote,V.E (dZ V.toDk s m).e (dZ V.toDk s m).o]) a (aA [0,0,1,1,0] rfl q),h1,rfl⟩
theorem eP{δ:Type}(V:Env δ)(r:Nat)(s:MS δ)(op err val:Int)(hrs:s.replies.length≤1000000):DT 74 #[.pointer (some ⟨r,0,none⟩), .int .i64 op, .int .i64 err, .int .i64 val] T0 [cH V r s] (c9 (λ_ H=>H=[cH V r (dA s op err val)])):=
 Leg.Does.pack λa=>Leg.Does.withinR (Dd r (s.rep a) op err val s.replies hrs) (λ_ _ _ _=>trivial) (λ_ q=>aA [0,1] rfl q) λv H hp=>by
  obtain⟨v',_,rfl⟩:=hp;exact⟨_,λ_ q=>bo (p:=λa:Adr=>[aj r (RepT.cells ((dA s op err val).rep a)) 87,V.lg a.lg (dA s op err val).e,own a.rs (dA s op err val).replies.length (ints ((dA s op err val).replies.flatMap ReplyT.flat)) 47 3,Er a.vo (dA s op err val).vote,V.E (dA s op err val).e (dA s op err val).o]) {a with rs:=v'} (aA [0,1,0,0,0] rfl q),rfl⟩
theorem qU{δ:Type}(V:Env δ)(r:Nat)(s:MS δ)(y:RowT)(op:Int)[OkR V.toDk s][OkRow y]:
 DT 75 #[(.pointer (some ⟨r,0,none⟩)),(.iface V.T V.ov),(.agg (ints y.flat).toArray),(.int .i64 (op))] T0 [cH V r s] (RI (.int .i64 (eS V.toDk s y op).2) [cH V r (eS V.toDk s y op).1]):=by
 refine BD 34 Tryz.func75 rfl rfl rfl λw0 F hF=>sr λ_ J1=>XY (ints y.flat) λb6=>?_
 refine PS ?_;refine nx J1 (aa λ_ J2=>sr λ_ J3=>PS ?_);refine LW 0 dI ba ai ?_;refine tp (ke RecT.zero (RecT.mk 0 0 y 0 BallotT.zero ChangeT.zero ViewT.zero) [(0,[Value.int .i64 0]),(2,ints y.flat)] dT eU (g:=RecT.sg)) ?_;refine CE wk (kN V r s (kn y)) (SM [1]) ?_;refine PS ?_;refine nx J3 (sr λ_ J4=>P2 ?_);refine ao ?_ ?_<;>intro h15;refine nx J4 (CY (sr λ_ J5=>P2 ?_));refine nx J5 (ah (ae (WK [0] (av rfl rfl ?_))));have e:eS V.toDk s y op=(dZ V.toDk s (kn y),rT V.toDk s (kn y)):=if_pos h15;exact jm e;refine nx J4 (CN (qx J2 (sr λ_ J6=>P4 ?_)));refine LW 1 dI ba ai ?_;refine P2 ?_;refine FA 9 cW ba ?_;refine gI (vs:=ints y.flat) (i:=0) (ab rfl) rfl rfl rfl rfl rfl (by rw[(ai y)];exact ba) (bm _) rfl rfl (λ_=>LC (cQ _) (ai _)) (λa_=>(O6 ((dZ V.toDk s (kn y)).rep a_) 0 rfl (by have h1:=(ai y);omega) (cg ((ai (((dZ V.toDk s (kn y)).rep a_).own)).trans (ai y).symm)))) (PS ?_);refine FA 1938 cW kE ?_;refine SK 0 kE (λ_=>cQ _) ?_ (hc:=by exact λa_=>(ON _ rfl _));refine PS ?_;refine FA 1939 cW aO ?_;refine SK 0 aO (λ_=>cQ _) ?_ (hc:=by exact λa_=>(OM _ rfl _));refine PS ?_;refine FA 1940 cW aO ?_;refine SK 0 aO (λ_=>cQ _) ?_ (hc:=by exact λa_=>(RepT.set_waits _ rfl _));refine nx J6 (sr λ_ J7=>P2 ?_);refine CZ K0 (nc V r (tZ (dZ V.toDk s (kn y)) y op)) ID λvR=>?_
 refine nx J7 (sr λ_ J8=>PS ?_);refine nx J8 (ah (WK [0] (av rfl rfl ?_)));have e:eS V.toDk s y op=(fk V.toDk (tZ (dZ V.toDk s (kn y)) y op),0):=if_neg h15;exact jm e
theorem oA(x:RowT)(who:Int)(d:RowT):
 DT 131 #[(.agg (ints x.flat).toArray),(.int .i64 (who)),(.agg (ints d.flat).toArray)] T0 [] (RI (.tuple #[.agg (ints (dH x who d).1.flat).toArray, .int .i64 (dH x who d).2]) []):=by
 refine BD 68 Tryz.func131 rfl rfl rfl λw0 F hF=>sr λ_ J1=>XY (ints x.flat) λb3=>?_
 refine XY (ints d.flat) λb5=>?_
 refine XZ tx (ints RowT.zero.flat) λb6=>?_
 refine PS ?_;refine nx J1 (aa λ_ J2=>sr λ_ J3=>PS ?_);refine CE Js (jM who) ID ?_;refine bc ?_ ?_<;>intro h11;have hw:cy who=true:=by simpa using h11
 have hw2:0≤who∧who<5:=of_decide_eq_true hw;refine PS ?_;refine nx J3 (CN (qx J2 (aa λ_ J4=>sr λ_ J5=>PS ?_)));refine FA 29 dI fb ?_;refine IX (29+who.toNat) jA aO ?_;refine LT 2 Y3 (.int .i64 ((x.heir[who.toNat]'(by omega)))) ?_ (hc:=by exact q9 x (who.toNat) (by omega) (by omega) (jZ x.heir (by omega)));refine PS ?_;refine ao ?_ ?_<;>intro h18;refine nx J5 (CY (sr λ_ J6=>BV ((ints RowT.zero.flat).toArray) ?_));refine SW 0 ba ai ?_;refine PS ?_;refine nx J6 (ah (ae (RT 0 [] dI ba (ai _) ?_)));have e:dH x who d=(.zero,8):=by rw[dH,hw,fM,dif_pos hw,if_neg (by decide),if_pos h18]
 exact⟨by rw[e],rfl⟩;refine nx J5 (CN (qx J4 (aa λ_ J7=>D1 1 bf ?_)));refine PD 0 ?_;refine PD 1 ?_;refine FD 2 0 dI aO ?_;refine LR 3 Y3 (cA d rfl) ?_;refine ta 4 rfl (bv (r:=(gm (d.version+1))) rfl rfl rfl rfl) ?_;refine FD 5 1 dI la ?_;refine ta 6 rfl (aK (vs:=ints (bR d.cells.toList)) rfl An rfl la rfl (λ_ h=>h.2.1) (dU d.cells) (Cq d 0 rfl (by decide) (whole (dU d.cells)))) ?_;refine FD 7 29 dI fb ?_;refine IY 8 (29+who.toNat) jA aO ?_;refine FD 10 34 dI AI ?_;refine AL 9 ?_;refine bB (i:=2) (ab rfl) rfl rfl rfl rfl rfl aO rfl rfl (LB (ai _)) (RowT.st_heir x (who.toNat) (by omega) (by omega) (pc x.heir (by omega) _)) rfl (EN (IY 11 (34+who.toNat*28) KE la ?_));refine AL 12 ?_;refine bL (vs:=ints (bR d.cells.toList)) (i:=2) (ab rfl) rfl rfl rfl rfl rfl (by rw[(dU d.cells)];exact la) (bm _) rfl rfl (LC (ai _) (dU _)) (RowT.wr_left_ (RowT.mk x.version x.cells (x.heir.set who.toNat (gm (d.version+1)) (by omega)) x.left) (who.toNat*28) (by omega) (by have h1:=(dU d.cells);omega) (oy sN x.left (i:=who.toNat) 0 (by omega) (by omega) (by have h1:=(dU d.cells);omega) (cg ((dU (x.left[who.toNat]'(by omega))).trans (dU d.cells).symm)))) rfl (EN (DN (ac J7 (aa λ_ J8=>sr λ_ J9=>FA 29 dI fb ?_))));refine tp (aK (vs:=ints d.heir.toList) rfl jA rfl fb rfl (RO 1) (cI d.heir) (OH d 0 rfl (by decide) (whole (cI d.heir)))) ?_;refine PS ?_;refine nx J9 (am ?_)
 refine bu (α:=(Nat)×(RowT)) (λ⟨k,y⟩=>k≤5∧y=nG x who d k) (λ⟨k,y⟩=>[(1,(.int .i64 (who))),(3,(.pointer (some ⟨b3,0,none⟩))),(5,(.pointer (some ⟨b5,0,none⟩))),(6,(.pointer (some ⟨b6,0,none⟩))),(7,(.int .i64 0)),(32,(.agg (ints d.heir.toList).toArray)),(33,(.int .i64 (((k:Nat):Int))))]) (λ⟨k,y⟩=>[aj b6 (ints RowT.zero.flat) 39,aj b5 (ints d.flat) 39,aj b3 (ints y.flat) 39]) (λ⟨k,y⟩=>5-k) (0,(RowT.mk x.version x.cells (x.heir.set who.toNat (gm (d.version+1)) (by omega)) (x.left.set who.toNat d.cells (by omega))))
  ⟨aN _,by rw[nG,nZ,dif_pos hw];rfl⟩ SB
  (λ_ s=>ak [0,0,0] rfl s) (λ⟨k,y⟩ hinv=>?_)
 obtain⟨hk,hy⟩:=hinv;refine sr λ_ J10=>PS ?_
 refine ao ?_ ?_<;>intro h34;refine nx J10 (aa λ_ J11=>CY (qx J11 (aa λ_ J12=>am (sr λ_ J13=>PS ?_))));refine tp (ia (cs:=ints d.heir.toList) (v:=Value.int .i64 (d.heir[k]'(by omega))) (r:=k) rfl jA Y3 rfl aO rfl rfl (by omega) (by omega) (by omega) (jZ d.heir (by omega))) ?_;refine P2 ?_;refine nx J13 (sr λ_ J14=>P3 ?_);refine ao ?_ ?_<;>intro h39;refine P3 ?_;refine ao ?_ ?_<;>intro h42;refine P3 ?_;refine FA 29 dI fb ?_;refine IX (29+k) jA aO ?_;refine LT 2 Y3 (.int .i64 ((y.heir[k]'(by omega)))) ?_ (hc:=by exact q9 y k (by omega) (by omega) (jZ y.heir (by omega)));refine PS ?_;refine ao ?_ ?_<;>intro h49;refine PS ?_;refine nx J14 (CY (D1 1 bf ?_));refine PD 0 ?_;refine PD 1 ?_;refine PD 2 ?_;refine PD 3 ?_;refine FD 4 34 dI AI ?_;refine IY 5 (34+k*28) KE la ?_;refine ta 6 rfl (aK (vs:=ints (bR (d.left[k]'(by omega)).toList)) rfl An rfl la rfl (λ_ h=>h.2.1) (dU (d.left[k]'(by omega))) (Fc d (k*28) (by omega) (by omega) (kh sN d.left (i:=k) 0 (by omega) (by omega) (by decide) (whole (dU (d.left[k]'(by omega))))))) ?_;refine FD 7 29 dI fb ?_;refine IY 8 (29+k) jA aO ?_;refine FD 10 34 dI AI ?_;refine AL 9 ?_;refine bB (i:=2) (ab rfl) rfl rfl rfl rfl rfl aO rfl rfl (LB (ai _)) (RowT.st_heir y k (by omega) (by omega) (pc y.heir (by omega) _)) rfl (EN (IY 11 (34+k*28) KE la ?_));refine AL 12 ?_
 refine bL (vs:=ints (bR (d.left[k]'(by omega)).toList)) (i:=2) (ab rfl) rfl rfl rfl rfl rfl (by rw[(dU (d.left[k]'(by omega)))];exact la) (bm _) rfl rfl (LC (ai _) (dU _)) (RowT.wr_left_ (RowT.mk y.version y.cells (y.heir.set k (d.heir[k]'(by omega)) (by omega)) y.left) (k*28) (by omega) (by have h1:=(dU (d.left[k]'(by omega)));omega) (oy sN y.left (i:=k) 0 (by omega) (by omega) (by have h1:=(dU (d.left[k]'(by omega)));omega) (cg ((dU (y.left[k]'(by omega))).trans (dU (d.left[k]'(by omega))).symm)))) rfl (EN (DN (af (ac J12 (ad (AD ?_))))));refine PS ?_;refine ap ?_
 exact aJ ((k+1,(RowT.mk y.version y.cells (y.heir.set k (d.heir[k]'(by omega)) (by omega)) (y.left.set k (d.left[k]'(by omega)) (by omega)))):(Nat)×(RowT)) ⟨by omega,by rw[oi,←hy,m6,gx _ (by omega),gx _ (by omega),if_pos ⟨by omega,by omega,by omega⟩,C6 _ (by omega),Gp _ (by omega)]⟩ (by show 5- (k+1)<5-k;omega)
  SB
  (λ_ s=>ak [0,0,0] rfl s)
 refine PS ?_;refine nx J14 (CN (aM (af (ac J12 (ad (AD ?_))))));refine PS ?_;refine ap ?_
 exact aJ ((k+1,y):(Nat)×(RowT)) ⟨by omega,by rw[oi,←hy,m6,gx _ (by omega),gx _ (by omega),if_neg (by omega)]⟩ (by show 5- (k+1)<5-k;omega)
  SB
  (λ_ s=>ak [0,0,0] rfl s)
 refine P2 ?_
 iterate 5 refine UF ?_
 refine PS ?_;refine nx J14 (CN (aM (af (ac J12 (ad (AD ?_))))));refine PS ?_;refine ap ?_
 exact aJ ((k+1,y):(Nat)×(RowT)) ⟨by omega,by rw[oi,←hy,m6,gx _ (by omega),gx _ (by omega),if_neg (by omega)]⟩ (by show 5- (k+1)<5-k;omega)
  SB
  (λ_ s=>ak [0,0,0] rfl s)
 refine PS ?_;refine UF ?_;refine UF ?_;refine P2 ?_
 iterate 5 refine UF ?_
 refine PS ?_;refine nx J14 (CN (aM (af (ac J12 (ad (AD ?_))))));refine PS ?_;refine ap ?_
 exact aJ ((k+1,y):(Nat)×(RowT)) ⟨by omega,by rw[oi,←hy,m6,gx _ (by omega),gx _ (by omega),if_neg (by omega)]⟩ (by show 5- (k+1)<5-k;omega)
  SB
  (λ_ s=>ak [0,0,0] rfl s)
 refine nx J10 (aa λ_ J15=>CN (aV (ay (ay (bh (ac J8 (sr λ_ J16=>FA 0 dI aO ?_)))))));refine LU 2 Y3 (cA y rfl) ?_;refine tp (bv (r:=(gm (y.version+1))) rfl rfl rfl rfl) ?_;refine FA 0 dI aO ?_;refine bB (i:=2) (ab rfl) rfl rfl rfl rfl rfl aO rfl rfl (LB (ai _)) (xa y rfl _) rfl (nx J16 (sr λ_ J17=>LW 2 dI ba ai ?_));refine SW 0 ba ai ?_;refine PS ?_;refine nx J17 (ah (RT 0 [] dI ba (ai _) ?_));obtain rfl:k=5:=by omega
 subst hy;have e:dH x who d=({nG x who d 5 with version:=gm ((nG x who d 5).version+1)},0):=by rw[dH,hw,fM,dif_pos hw,if_neg (by decide),if_neg h18]
 exact⟨by rw[e],rfl⟩;refine PS ?_;refine nx J3 (CY (sr λ_ J18=>BV ((ints RowT.zero.flat).toArray) ?_));refine SW 0 ba ai ?_;refine PS ?_;refine nx J18 (ah (ae (RT 0 [] dI ba (ai _) ?_)));have hw:cy who=false:=by simpa using h11
 have e:dH x who d=(.zero,5):=by rw[dH,hw];rfl
 exact⟨by rw[e],rfl⟩
theorem yM{δ:Type}(V:Env δ)(r:Nat)(s:MS δ)[OkR V.toDk s]:
 DT 129 #[(.pointer (some ⟨r,0,none⟩))] T0 [cH V r s] (c9 (λr' H=>∃u,r'=u∧H=[own u (bE s).length (ints (bE s)) 3 1,cH V r s])):=by
 refine BD 44 Tryz.func129 rfl rfl rfl λw0 F hF=>sr λ_ J1=>PS ?_
 refine nx J1 (sr λ_ J2=>PS ?_);refine nx J2 (aa λ_ J3=>sr λ_ J4=>PS ?_);refine nx J4 (am ?_)
 refine bu (α:=(Nat)×(Value)) (λ⟨k,u⟩=>k≤5∧u.oneCell'=true) (λ⟨k,u⟩=>[(0,(.pointer (some ⟨r,0,none⟩))),(2,(.slice none 0 0)),(3,u),(7,(.int .i64 (((k:Nat):Int))))]) (λ⟨k,u⟩=>[own u ((gV s k).length) (ints (gV s k)) 3 1,cH V r s]) (λ⟨k,u⟩=>5-k) (0,(.slice none 0 0))
  ⟨aN _,rfl⟩ SB
  (λ_ s=>fq 3 1 (ak [0] rfl s)) (λ⟨k,u⟩ hinv=>?_)
 obtain⟨hk,hu⟩:=hinv;have hol:=GF s k;refine sr λ_ J5=>PS ?_
 refine ao ?_ ?_<;>intro h8;refine nx J5 (aa λ_ J6=>CY (qx J6 (aa λ_ J7=>am (sr λ_ J8=>P2 ?_))));refine nx J8 (sr λ_ J9=>P2 ?_);refine FA 2 cW be ?_;refine LZ 1 dS be an s.view ?_ (hc:=by exact λ_=>cO _);refine PS ?_;refine CE Bs (j6 s.view ((k:Nat):Int) OkVw.rng) ID ?_;refine P3 ?_;refine bc ?_ ?_<;>intro h18;refine P2 ?_;refine nx J9 (sr λ_ J10=>?_)
 iterate 5 refine PS ?_
 refine FA 0 cW aO ?_;refine LG 1 Y3 (.int .i64 (s.id)) ?_ (hc:=by exact λa_=>(cF _ rfl));refine PS ?_;refine ao ?_ ?_<;>intro h26
 iterate 5 refine PS ?_
 refine FA 9 cW ba ?_;refine FA 38 dI fb ?_;refine IX (38+k) jA aO ?_;refine LG 1 Y3 (.int .i64 ((s.own.heir[k]'(by omega)))) ?_ (hc:=by exact λa_=>(RepT.pt_own (s.rep a_) (29+k) (by omega) (by omega) (q9 ((s.rep a_).own) k (by omega) (by omega) (jZ (((s.rep a_).own).heir) (by omega)))));refine PS ?_;refine ao ?_ ?_<;>intro h36;refine PS ?_;refine nx J10 (CY (ad (P2 ?_)));refine aL (cells:=#[(.int .i64 (((k:Nat):Int)))]) (ab rfl) rfl rfl rfl ii nf rfl rfl rfl (by as_aux_lemma=>kernel_rfl) (λb40=>bO (k:=1) (news:=[(.int .i64 (((k:Nat):Int)))]) (nn':=(gV s k).length+1) (xs':=ints (gV s k)++[(.int .i64 (((k:Nat):Int)))]) (ab rfl) rfl rfl rfl ii nf rfl rfl rfl rfl rfl rfl (λ_ _=>fB rfl (RO 0) rfl) (by simp[Value.oneCell']) (by simp only[maxLen];omega) (by omega) (by simp) (by simp) (λv41 ov41=>PS ?_));refine ap (af (ac J7 (ad (AD ?_))));refine PS ?_;refine ap ?_
 exact aJ ((k+1,v41):(Nat)×(Value)) ⟨by omega,ov41⟩ (by show 5- (k+1)<5-k;omega)
  SB
  (λ_ q=>by
   show bK [own v41 (gV s (k+1)).length (ints (gV s (k+1))) 3 1,cH V r s] _;rw[show gV s (k+1)=gV s k++[((k:Nat):Int)]by rw[ol,if_pos (Ln h18 h26 (by rw[gx _ (by omega)];exact h36))],ag,ee]
   exact ak [1,1] rfl q)
 refine PS ?_;refine nx J10 (CN (aM (af (ac J7 (ad (AD ?_))))));refine PS ?_;refine ap ?_
 exact aJ ((k+1,u):(Nat)×(Value)) ⟨by omega,hu⟩ (by show 5- (k+1)<5-k;omega)
  SB
  (λ_ q=>by
   show bK [own u (gV s (k+1)).length (ints (gV s (k+1))) 3 1,cH V r s] _;rw[show gV s (k+1)=gV s k by rw[ol,if_neg (by intro hq;have h2:=zV hq;rw[gx _ (by omega)]at h2;first|omega| (simp_all;done)| (simp_all;omega)),a8]]
   exact ak [0,0] rfl q)
 refine P2 ?_
 iterate 8 refine UF ?_
 refine PS ?_;refine nx J10 (CN (aM (af (ac J7 (ad (AD ?_))))));refine PS ?_;refine ap ?_
 exact aJ ((k+1,u):(Nat)×(Value)) ⟨by omega,hu⟩ (by show 5- (k+1)<5-k;omega)
  SB
  (λ_ q=>by
   show bK [own u (gV s (k+1)).length (ints (gV s (k+1))) 3 1,cH V r s] _;rw[show gV s (k+1)=gV s k by rw[ol,if_neg (by intro hq;have h2:=zV hq;rw[gx _ (by omega)]at h2;first|omega| (simp_all;done)| (simp_all;omega)),a8]]
   exact ak [0,0] rfl q)
 refine P2 ?_;refine nx J9 (sr λ_ J11=>P2 ?_)
 iterate 6 refine UF ?_
 refine P2 ?_
 iterate 8 refine UF ?_
 refine PS ?_;refine nx J11 (CN (aM (af (ac J7 (ad (AD ?_))))));refine PS ?_;refine ap ?_
 exact aJ ((k+1,u):(Nat)×(Value)) ⟨by omega,hu⟩ (by show 5- (k+1)<5-k;omega)
  SB
  (λ_ q=>by
   show bK [own u (gV s (k+1)).length (ints (gV s (k+1))) 3 1,cH V r s] _;rw[show gV s (k+1)=gV s k by rw[ol,if_neg (by intro hq;have h2:=zV hq;rw[gx _ (by omega)]at h2;first|omega| (simp_all;done)| (simp_all;omega)),a8]]
   exact ak [0,0] rfl q)
 refine nx J5 (aa λ_ J12=>CN (aV (ay (ay (bh (ac J3 (sr λ_ J13=>P2 ?_)))))));refine nx J13 (ah (WK [0,0] (av rfl rfl ?_)));obtain rfl:k=5:=by omega
 exact⟨u,rfl,rfl⟩
theorem m3{δ:Type}(V:Env δ)(r:Nat)(s:MS δ)(who w:Int)(hm:cy who=true)(hw:0≤w∧w<5):
 DT 130 #[(.pointer (some ⟨r,0,none⟩)),(.int .i64 (who)),(.int .i64 (w))] T0 [cH V r s] (RI (.bool (vg s who w)) [cH V r s]):=by
 refine BD 17 Tryz.func130 rfl rfl rfl λw0 F hF=>?_
 have hm2:0≤who∧who<5:=of_decide_eq_true hm;refine sr λ_ J1=>PS ?_
 refine nx J1 (sr λ_ J2=>P3 ?_);refine FA 1943 cW fb ?_;refine IX (1943+who.toNat) jA aO ?_;refine LG 0 Y3 (.int .i64 ((s.told[who.toNat]'(by omega)))) ?_ (hc:=by exact λa_=>(O7 (s.rep a_) (who.toNat) (by omega) (by omega) (jZ ((s.rep a_).told) (by omega))));refine PS ?_;refine tp (gM (r:=((s.told[who.toNat]'(by omega)).fdiv (2^min w.toNat IntKind.i64.bits))) rfl rfl rfl (by omega) rfl) ?_;refine tp (iD (r:=(((s.told[who.toNat]'(by omega)).fdiv (2^min w.toNat IntKind.i64.bits))%2)) rfl rfl rfl (mask (k:=1) (by decide) _)) ?_;refine P2 ?_;refine nx J2 (ah (WK [0] (av rfl rfl ?_)));exact⟨by rw[vg,qz,dif_pos hm],rfl⟩
theorem oo{δ:Type}(V:Env δ)(r:Nat)(s:MS δ)[OkR V.toDk s]:
    DT 84 #[(.pointer (some ⟨r,0,none⟩)),(.iface V.T V.ov)] T0 [cH V r s] (c9 (λ_ H=>H=[cH V r (mN V.toDk s)])):=by
 refine BD 80 Tryz.func84 rfl rfl rfl λw0 F hF=>sr λ_ J1=>PS ?_
 refine CR Ko (yM V r s) ID λvR HR hR=>?_
 obtain⟨_,rfl,rfl⟩:=hR;revert vR;intro ud;refine gj 0 rfl rfl (λhlud houd=>PS ?_);refine nx J1 (aa λ_ J2=>sr λ_ J3=>P2 ?_);refine FA 1938 cW kE ?_;refine LG 1 Y4 (.bool (s.busy)) ?_ (hc:=by exact λa_=>(xQ _ rfl));refine bc ?_ ?_<;>intro h19;refine PS ?_
 iterate 3 refine UT ?_
 refine PS ?_;refine nx J3 (CY (ah (ae (WK [1] (dx rfl ?_)))));exact congrArg (λq=>[cH V r q]) (show s=mN V.toDk s from(if_pos (by rw[h19];rfl)).symm);refine P2 ?_;refine tq (c8 rfl ii rfl hlud) ?_;refine PS ?_;refine ao ?_ ?_<;>intro h23;refine PS ?_;refine nx J3 (CY (ah (ae (WK [1] (dx rfl ?_)))));exact congrArg (λq=>[cH V r q]) (show s=mN V.toDk s from(if_pos (by rw[h19,decide_eq_true (by omega)];rfl)).symm);refine PS ?_;refine nx J3 (CN (qx J2 (aa λ_ J4=>sr λ_ J5=>PS ?_)));refine tp (c8 rfl ii rfl hlud) ?_;refine PS ?_;refine nx J5 (am ?_)
 refine bu (α:=(Nat)) (λk=>k≤(bE s).length∧∀j,j<k→∀w∈gL ((bE s).getD j 0),vg s ((bE s).getD j 0) w=true) (λk=>[(0,(.pointer (some ⟨r,0,none⟩))),(1,(.iface V.T V.ov)),(4,ud),(25,ud),(26,(.int .i64 ((((bE s).length:Nat):Int)))),(27,(.int .i64 (((k:Nat):Int))))]) (λk=>[own ud ((bE s).length) (ints (bE s)) 3 1,cH V r s]) (λk=>(bE s).length-k) 0
     ⟨aN _,λj h=>absurd h (by omega)⟩ SB
     (λ_ s=>s) (λk hinv=>?_)
 obtain⟨hk,hal⟩:=hinv;refine sr λ_ J6=>PS ?_
 refine ao ?_ ?_<;>intro h28;refine nx J6 (aa λ_ J7=>CY (qx J7 (aa λ_ J8=>am (sr λ_ J9=>?_))));have hmm1:(bE s).getD k 0∈bE s:=by rw[List.getD_eq_getElem?_getD,List.getElem?_eq_getElem (by omega)];exact eW _
 have hm1:cy ((bE s).getD k 0)=true:=(wN hmm1).1;have hn1:0≤(bE s).getD k 0∧(bE s).getD k 0<5:=of_decide_eq_true hm1;refine ij 0 rfl rfl (by omega) (λge1 ce1 he1 _=>tp (bg (r:=k) he1 rfl ii aO rfl rfl (by omega) (by omega) (by omega)) ?_);refine tp (bZ (v:=(.int .i64 (((bE s).getD k 0)))) rfl Y3 rfl rfl (fI 0 rfl he1 rfl) (wB (by omega))) ?_;refine PS ?_;refine nx J9 (sr λ_ J10=>PS ?_);refine CR Bu (pX ((bE s).getD k 0) hm1) ID λvR HR hR=>?_
 obtain⟨_,rfl,rfl⟩:=hR;revert vR;intro uw;refine gj 0 rfl rfl (λhluw _=>ij 0 rfl rfl (by omega) (λgw capw hvw hcapw=>tp (c8 rfl ii rfl hluw) ?_));refine PS ?_;refine nx J10 (am (gK 2 (sr λ_ J11=>PS ?_)));refine nx J11 (aa λ_ J12=>CY (qx J12 (aa λ_ J13=>am (sr λ_ J14=>tp (bg (r:=0) hvw rfl ii aO rfl rfl (by omega) (by omega) rfl) ?_))));refine tp (bZ (v:=(.int .i64 (((((bE s).getD k 0)+1)%5)))) rfl Y3 rfl rfl (fI 0 rfl hvw rfl) rfl) ?_;refine PS ?_;refine nx J14 (sr λ_ J15=>P3 ?_);refine CE EO (m3 V r s ((bE s).getD k 0) ((((bE s).getD k 0)+1)%5) hm1 (by omega)) (SM [2]) ?_;refine bc ?_ ?_<;>intro h41;refine PS ?_;refine nx J15 (CN (aM (af (ac J13 (ad (tp (bv (r:=1) rfl rfl rfl (by decide)) ?_))))));refine PS ?_;refine ap (bH (sr λ_ J16=>PS ?_));refine nx J16 (aa λ_ J17=>CY (qx J17 (aa λ_ J18=>am (sr λ_ J19=>tp (bg (r:=1) hvw rfl ii aO rfl rfl (by omega) (by omega) rfl) ?_))));refine tp (bZ (v:=(.int .i64 (((((bE s).getD k 0)+2)%5)))) rfl Y3 rfl rfl (fI 1 rfl hvw rfl) rfl) ?_;refine PS ?_;refine nx J19 (sr λ_ J20=>P3 ?_);refine CE EO (m3 V r s ((bE s).getD k 0) ((((bE s).getD k 0)+2)%5) hm1 (by omega)) ID ?_;refine bc ?_ ?_<;>intro h41;refine PS ?_;refine nx J20 (CN (aM (af (ac J18 (ad (tp (bv (r:=2) rfl rfl rfl (by decide)) ?_))))));refine PS ?_;refine ap (bH (sr λ_ J21=>PS ?_));refine nx J21 (aa λ_ J22=>CN (aV (ay (ay (bh (af (ac J8 (ad (AD ?_)))))))));refine PS ?_
 refine ap ?_
 exact aJ ((k+1):(Nat)) ⟨by omega,λj hj=>by
        by_cases q:j=k
        · subst q
          intro w hw;rw[gL,if_pos hm1]at hw;simp only[bT,List.not_mem_nil,or_false]at hw;rcases hw with rfl|rfl<;>assumption
        · exact hal j (by omega)⟩ (by show(bE s).length- (k+1)< (bE s).length-k;omega)
   SB
   (λ_ s=>ak [2,0] rfl s)
 refine PS ?_;refine nx J20 (CY (ah (aH (ae (ae (aH (aH (ae (ae (aH (ae ?_)))))))))));refine WK [0] (dx rfl ?_)
 have hb: ¬uN s=true:=λh=>by
   have h2:=List.all_eq_true.1 (List.all_eq_true.1 h _ hmm1) (((bE s).getD k 0+2)%5) (by rw[gL,if_pos hm1];simp);rw[h41]at h2;cases h2
 exact MQ (by rw[mN,if_neg (by rw[h19,decide_eq_false (by omega)];decide),if_neg hb]);refine PS ?_;refine nx J15 (CY (ah (aH (ae (ae (aH (aH (ae (ae (aH (ae ?_)))))))))));refine WK [0] (dx rfl ?_)
 have hb: ¬uN s=true:=λh=>by
   have h2:=List.all_eq_true.1 (List.all_eq_true.1 h _ hmm1) (((bE s).getD k 0+1)%5) (by rw[gL,if_pos hm1];simp);rw[h41]at h2;cases h2
 exact MQ (by rw[mN,if_neg (by rw[h19,decide_eq_false (by omega)];decide),if_neg hb]);refine nx J6 (aa λ_ J23=>CN (aV (ay (ay (bh (ac J4 (sr λ_ J24=>P2 ?_)))))));refine FA 9 cW ba ?_;refine LZ 1 dI ba ai s.own ?_ (hc:=by exact λ_=>Cr _);refine XZ tx (ints RowT.zero.flat) λb9=>?_
 refine SW 0 ba ai ?_;refine nx J24 (aa λ_ J25=>sr λ_ J26=>PS ?_);refine tp (c8 rfl ii rfl hlud) ?_;refine PS ?_;refine nx J26 (am ?_)
 refine bu (α:=(Nat)×(RowT)) (λ⟨q,y⟩=>q≤(bE s).length∧y=pA s ((bE s).take q)) (λ⟨q,y⟩=>[(0,(.pointer (some ⟨r,0,none⟩))),(1,(.iface V.T V.ov)),(4,ud),(9,(.pointer (some ⟨b9,0,none⟩))),(49,ud),(50,(.int .i64 ((((bE s).length:Nat):Int)))),(51,(.int .i64 (((q:Nat):Int))))]) (λ⟨q,y⟩=>[aj b9 (ints y.flat) 39,own ud ((bE s).length) (ints (bE s)) 3 1,cH V r s]) (λ⟨q,y⟩=>(bE s).length-q) (0,s.own)
     ⟨aN _,rfl⟩ SB
     (λ_ s=>ak [0,0,0] rfl s) (λ⟨q,y⟩ hinv=>?_)
 obtain⟨hq,hy⟩:=hinv;refine sr λ_ J27=>PS ?_
 refine ao ?_ ?_<;>intro h52;refine nx J27 (aa λ_ J28=>CY (qx J28 (aa λ_ J29=>am (sr λ_ J30=>?_))));have hmm2:(bE s).getD q 0∈bE s:=by rw[List.getD_eq_getElem?_getD,List.getElem?_eq_getElem (by omega)];exact eW _
 have hm2:cy ((bE s).getD q 0)=true:=(wN hmm2).1;have hn2:0≤(bE s).getD q 0∧(bE s).getD q 0<5:=of_decide_eq_true hm2;refine ij 1 rfl rfl (by omega) (λge1 ce1 he1 _=>tp (bg (r:=q) he1 rfl ii aO rfl rfl (by omega) (by omega) (by omega)) ?_);refine tp (bZ (v:=(.int .i64 (((bE s).getD q 0)))) rfl Y3 rfl rfl (fI 1 rfl he1 rfl) (wB (by omega))) ?_;refine PS ?_;refine nx J30 (aa λ_ J31=>sr λ_ J32=>PS ?_);refine FA 29 dI fb ?_;refine IX (29+(((bE s).getD q 0)).toNat) jA aO ?_;refine LT 0 Y3 (.int .i64 ((y.heir[(((bE s).getD q 0)).toNat]'(by omega)))) ?_ (hc:=by exact q9 y ((((bE s).getD q 0)).toNat) (by omega) (by omega) (jZ y.heir (by omega)));refine PS ?_;refine ao ?_ ?_<;>intro h59;refine nx J32 (CY (aV (ay (bh (ac J29 (ad (AD ?_)))))));refine PS ?_;refine ap ?_
 exact aJ ((q+1,y):(Nat)×(RowT)) ⟨by omega,by rw[tY s (by omega),←hy,if_pos (by rw[fM,dif_pos hm2];exact h59)]⟩ (by show(bE s).length- (q+1)< (bE s).length-q;omega)
   SB
   (λ_ s=>ak [0,0,0] rfl s)
 refine nx J32 (CN (qx J31 (aa λ_ J33=>eT (α:=(Nat)) (λ_=>True) (λb12=>[(0,(.pointer (some ⟨r,0,none⟩))),(1,(.iface V.T V.ov)),(4,ud),(9,(.pointer (some ⟨b9,0,none⟩))),(12,(.pointer (some ⟨b12,0,none⟩))),(13,(.int .i64 ((dH y ((bE s).getD q 0) (s.last[(((bE s).getD q 0)).toNat]'(by omega))).2))),(49,ud),(50,(.int .i64 ((((bE s).length:Nat):Int)))),(51,(.int .i64 (((q:Nat):Int))))]) (λb12=>[aj b12 (ints ((dH y ((bE s).getD q 0) (s.last[(((bE s).getD q 0)).toNat]'(by omega))).1).flat) 39,aj b9 (ints y.flat) 39,own ud ((bE s).length) (ints (bE s)) 3 1,cH V r s]) (λb12 _=>?_) (λtl33=>?_))));refine ac J33 (aa λ_ J34=>sr λ_ J35=>P2 ?_);refine ao ?_ ?_<;>intro h73
 · exact absurd (Lj hm2 (by rw[fM,dif_pos hm2];exact h59)) h73
 refine nx J35 (CN (qx J34 (ad (LW 0 dI ba ai ?_))));refine SW 1 ba ai ?_;refine ap (af (ac J29 (ad (AD ?_))));refine PS ?_;refine ap ?_
 exact aJ ((q+1,(dH y ((bE s).getD q 0) (s.last[(((bE s).getD q 0)).toNat]'(by omega))).1):(Nat)×(RowT)) ⟨by omega,by rw[tY s (by omega),←hy,if_neg (by rw[fM,dif_pos hm2];exact h59),nd,dif_pos hm2]⟩ (by show(bE s).length- (q+1)< (bE s).length-q;omega)
   SB
   (λ_ s=>ak [1,1,1] rfl s)
 refine DC bf (BL 0) (cR 2 rfl rfl) ?_;refine LY 0 dI ba ai ?_;refine PD 1 ?_;refine PD 2 ?_;refine PD 3 ?_;refine PD 4 ?_;refine FD 5 1948 cW sU ?_;refine IY 6 (1948+((((bE s).getD q 0)).toNat)*174) GR ba ?_;refine ta 7 rfl (fU (vs:=ints (s.last[(((bE s).getD q 0)).toNat]'(by omega)).flat) rfl dI rfl ba rfl (λ_ h=>h.2.2.1) (ai (s.last[(((bE s).getD q 0)).toNat]'(by omega))) (λa_=>(RepT.sub_last (s.rep a_) (((((bE s).getD q 0)).toNat)*174) (by omega) (by omega) (kh dm ((s.rep a_).last) (i:=(((bE s).getD q 0)).toNat) 0 (by omega) (by omega) (by decide) (whole (ai (((s.rep a_).last)[(((bE s).getD q 0)).toNat]'(by omega)))))))) ?_;refine cx [8,12] (by kernel_rfl) rfl (aE rfl ?_ ?_);refine CE Kn (oA y ((bE s).getD q 0) (s.last[(((bE s).getD q 0)).toNat]'(by omega))) ID ?_;refine EN (PD 9 ?_);refine PD 10 ?_;refine PD 11 ?_;refine AL 12 ?_;refine XZ tx (ints RowT.zero.flat) λb12=>?_
 refine EN (AL 13 ?_);refine SW 0 ba ai ?_;refine EN (PD 14 ?_);refine DN ?_
 exact aF
   SB
   (λ_ s=>s)
   (tl33 ((b12):(Nat)) trivial)
 refine aE rfl ?_ ?_;refine XZ tx (ints RowT.zero.flat) λb12=>?_
 refine EN (AL 8 ?_);refine CE Kn (oA y ((bE s).getD q 0) (s.last[(((bE s).getD q 0)).toNat]'(by omega))) ID ?_;refine EN (PD 9 ?_);refine PD 10 ?_;refine PD 11 ?_;refine AL 13 ?_;refine SW 0 ba ai ?_;refine EN (PD 14 ?_);refine DN ?_
 exact aF
   SB
   (λ_ s=>s)
   (tl33 ((b12):(Nat)) trivial)
 exact bz;refine nx J27 (aa λ_ J36=>CN (aV (ay (ay (bh (ac J25 (ad ?_)))))));have hoy:OkRow y:=by rw[hy];exact inferInstance
 refine P2 ?_;refine LW 0 dI ba ai ?_;refine CE K6 (qU V r s y 0) (SM [2]) ?_;refine ap (WK [0] (br rfl ?_));obtain rfl:k=(bE s).length:=by omega
 obtain rfl:q=(bE s).length:=by omega
 have hb:uN s=true:=List.all_eq_true.2 λi hi=>List.all_eq_true.2 λw hw=>by
   obtain⟨j,hj,rfl⟩:=fV hi;have h2:=hal j (by omega) w;rw[List.getD_eq_getElem?_getD,List.getElem?_eq_getElem hj]at h2;exact h2 hw
 rw[eV]at hy;subst hy;exact MQ (by rw[mN,if_neg (by rw[h19,decide_eq_false (by omega)];decide),if_pos hb])
end Go.Proofs.YtfocodjhmkokpaaGreatDoor
end
