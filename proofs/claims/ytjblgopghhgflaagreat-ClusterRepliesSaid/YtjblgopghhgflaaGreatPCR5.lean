/-
  Joined texts:what a statement's proof reaches.
-/
import Derived.Conc.LoneCalls
import Derived.Conc.LoneSelectN
import Derived.Test.YtjblgopghhgflaaGreatPCR4
set_option maxHeartbeats 8000000
set_option maxRecDepth 100000
set_option linter.unusedSimpArgs false
set_option linter.unusedVariables false
section
namespace Leg
open Go Codec Api
def WX(P:Program)(ops:Array Oper)(Q:QQ)(is:List Nat)(a:Act)(w:World):Prop:=
 ∀(b:Frame) (k:List Item) (cs:List Frame),∃e a' w',Q e a' w'∧Arrives P (lone (b.at a (.inRegion ops is::k)) cs w) b k cs e a' w'
theorem WX.nil{P:Program}{ops:Array Oper}{Q:QQ}{a:Act}{w:World}(h:Q .normal a w):WX P ops Q [] a w:=
 λ_ _ _=>⟨.normal,a,w,h, .one step_region_end⟩
theorem WX.region{P:Program}{id:Nat}{ops:Array Oper}{Q:QQ}{a:Act}{w:World}(h:WX P ops Q (List.range ops.size) a w):(Code.region id ops false).wp P Q a w:=
 λb k cs=>let ⟨e,a',w',q,r⟩:=h b k cs;⟨e,a',w',q, .of_steps (.one step_region) r⟩
section
variable {P:Program} {ops:Array Oper} {Q:QQ} {is:List Nat} {a:Act} {w:World} {i:Nat} {o:Oper}
theorem D8(b:Frame)(k:List Item)(ho:ops[i]?=some o)(a:Act)(v:Value):(b.at a (.inRegion ops (i::is)::k)).finish v=b.at (a.put o.dst v) (.inRegion ops is::k):=by rw[Frame.finish_at,ho];rfl
theorem WX.value{v:Value}{w1:World}(ho:ops[i]?=some o)(hw:Region.wanted o (yielded ops a.tmps)=true)(hr:(execOp a.eval o).run P w= .ok (.value v) w1)(h:WX P ops Q is (a.put o.dst v) w1):WX P ops Q (i::is) a w:=λb k cs=>by
 obtain⟨e,a',w',q,r⟩:=h b k cs;refine⟨e,a',w',q, .of_steps (.one (step_lone_go ?_)) r⟩;rw[stepG_op ho hw,←D8 b k ho];simp[stepG.apply,hr]
theorem WX.comm{v:Value}{w1 w2:World}{cases:Array CommCase}{blocking:Bool}{shape:CommShape}(ho:ops[i]?=some o)(hw:Region.wanted o (yielded ops a.tmps)=true)(hr:(execOp a.eval o).run P w= .ok (.comm cases blocking shape) w1)
 (hs: ∀fr cs es,stepG P true (Conc.G fr cs) w= .comm (Conc.G fr cs) cases blocking shape w1 es→step P (Conc.solo (Conc.G fr cs) w)= .next (Conc.solo (Conc.G (fr.finish v) cs) w2)) (h:WX P ops Q is (a.put o.dst v) w2):WX P ops Q (i::is) a w:=λb k cs=>by
 obtain⟨e,a',w',q,r⟩:=h b k cs;have h1:=stepG_op (P:=P) (b:=b) (k:=k) (cs:=cs) (w:=w) (rest:=is) ho hw
 have h2: ∃es,stepG P true (Conc.G (b.at a (.inRegion ops (i::is)::k)) cs) w= .comm (Conc.G (b.at a (.inRegion ops (i::is)::k)) cs) cases blocking shape w1 es:=by
  unfold Conc.G;rw[h1];simp only[stepG.apply,Sem.runT_eq,hr];exact⟨_,rfl⟩
 obtain⟨es,h2⟩:=h2;have h3:=hs _ _ _ h2;rw[D8 b k ho]at h3;exact⟨e,a',w',q, .of_steps (.one h3) r⟩
abbrev JS:= @WX.comm
end
end Leg
namespace Leg
open Go Codec Api
section
variable (P:Program) (w0:World) (F:Hl) (n:Nat)
def TX(ops:Array Oper)(Q:QQ)(is:List Nat)(D:List Deferred)(L:List (Nat×Value))(H:List HP):Prop:=∀a w,Fr n D L a→Same w0 w→Sat H F w→WX P ops Q is a w
end
section
variable {P:Program} {w0:World} {F:Hl} {n:Nat} {ops:Array Oper} {Q:QQ} {is:List Nat} {D:List Deferred} {L:List (Nat×Value)} {H:List HP} {i d:Nat} {o:Oper}
theorem TC.regionX{id:Nat}{l:List Oper}(h:TX P w0 F n l.toArray Q (List.range l.length) D L H):TC P w0 F n (.region id l.toArray false) Q D L H:=
 λa w f s m=>WX.region (by simpa using h a w f s m)
abbrev wX:= @TC.regionX
theorem TX.nil(h:TE w0 F n Q .normal D L H):TX P w0 F n ops Q [] D L H:=λa w f s m=>WX.nil (h a w f s m)
abbrev IA:= @TX.nil
theorem TX.v{v:Value}(ho:ops[i]?=some o)(hw:Want n D ops o L)(hd:o.dst=some d)(hn:Nat.blt d n=true)(h1:PV P n D L (Sat H F) o v)(h:TX P w0 F n ops Q is D ((d,v)::L) H):TX P w0 F n ops Q (i::is) D L H:=λa w f s m=>by
 refine WX.value ho (hw a f) (h1 a w f m) ?_;rw[hd];exact h _ _ (f.put (lb hn) _) s m
abbrev rW:= @TX.v
end
end Leg
namespace Leg
open Go Codec Api Go.Conc
section
variable {P:Program} {w0:World} {F:Hl} {n:Nat} {ops:Array Oper} {Q:QQ} {is:List Nat} {D:List Deferred} {L:List (Nat×Value)} {H:List HP} {i d:Nat} {o:Oper}
theorem Sat.chan{w:World}{c cap s r:Nat}{vs:List Value}(m:Sat H F w)(k:Nat)(hk:Nat.blt k H.length=true)(e:H.getD k (λ_=>True)=dR c cap vs s r):w.heap[c]?=some (.chan cap vs.toArray false s r false):=by
 obtain⟨h,d,e',x⟩:=m;obtain⟨h1,h2,d',rfl,a,_⟩:=eI k (lb hk) x;rw[e]at a
 have:hp w c=some (.chan cap vs.toArray false s r false):=by
  rw[e',iM];exact gG (by rw[show h1=sg c _ from a];simp[sg])
 exact this
theorem Sat.setChan{w:World}{c cap s r s' r':Nat}{vs vs':List Value}(m:Sat H F w)(k:Nat)(hk:Nat.blt k H.length=true)(e:H.getD k (λ_=>True)=dR c cap vs s r):Sat (H.set k (dR c cap vs' s' r')) F (w.setChan c cap vs'.toArray false s' r' false):=by
 have hc:=m.chan k hk e
 have hlt:c<w.heap.size:=by
  by_cases q:c<w.heap.size
  · exact q
  · rw[Array.getElem?_eq_none (by omega)]at hc;cases hc
 exact m.write k (lb hk) e (heap_setChan w c cap vs'.toArray false s' r' false hlt) (λj hj=>by simp[World.setChan,Array.getElem?_setIfInBounds,Ne.symm hj])
theorem Same.setChan{w w':World}(s:Same w w')(c cap:Nat)(b:Array Value)(cl:Bool)(x y:Nat)(t:Bool):Same w (w'.setChan c cap b cl x y t):=s.trans ⟨rfl,rfl,rfl,by simp[World.setChan]⟩
theorem rl{x:Operand}{so:Option Operand}{e:TypeId}{z:Value}{blocking:Bool}(ho:o.op= .select #[⟨x,so,e⟩] blocking)(hz:(P.info? e).map (·.zero)=some (some z))(ev:Operand→Value)(w:World):
 (execOp ev o).run P w= .ok (.comm #[{chan:=ev x,send:=so.map ev,zero:=z}] blocking .select) w:=by
 simp[execOp,ho,Sem.run_bind,nc hz]
theorem TX.sendRoom{x y:Operand}{e c cap s r:Nat}{z v:Value}{vs:List Value}(k:Nat)(ho:ops[i]?=some o)(hw:Want n D ops o L)(hop:o.op= .select #[⟨x,some y,e⟩] false)(hd:o.dst=some d)(hn:Nat.blt d n=true)(hz:(P.info? e).map (·.zero)=some (some z))
 (hx:cQ L x=some (.chan (some c))) (hy:cQ L y=some v) (hk:Nat.blt k H.length=true) (hH:H.getD k (λ_=>True)=dR c cap vs s r) (hroom:vs.length<cap)
 (h:TX P w0 F n ops Q is D ((d, .tuple #[.int .i64 0, .bool false])::L) (H.set k (dR c cap (vs++[v]) (s+1) r))):TX P w0 F n ops Q (i::is) D L H:=λa w f sm m=>by
 have hc:=m.chan k hk hH;have hr:=rl (P:=P) hop hz a.eval w;rw[f.eval hx]at hr;simp only[Option.map_some,f.eval hy]at hr;refine JS (v:= .tuple #[.int .i64 0, .bool false]) (w2:=w.setChan c cap (vs++[v]).toArray false (s+1) r false) ho (hw a f) hr (λfr cs es hs=>?_) ?_
 · have:=step_lone_sel_send_room (k:=0) hs rfl (λj c' hj hjc=>by cases j with|zero=>exact absurd rfl hj|succ j=>simp at hjc) hc (by simpa using hroom)
   rw[this];simp[commResult,goInt]
 · rw[hd]
   exact h _ _ (f.put (lb hn) _) (sm.setChan ..) (m.setChan k hk hH)
theorem TX.sendFull{x y:Operand}{e c cap s r:Nat}{z v:Value}{vs:List Value}(k:Nat)(ho:ops[i]?=some o)(hw:Want n D ops o L)(hop:o.op= .select #[⟨x,some y,e⟩] false)(hd:o.dst=some d)(hn:Nat.blt d n=true)(hz:(P.info? e).map (·.zero)=some (some z))
 (hx:cQ L x=some (.chan (some c))) (hy:cQ L y=some v) (hk:Nat.blt k H.length=true) (hH:H.getD k (λ_=>True)=dR c cap vs s r) (hfull:cap≤vs.length)
 (h:TX P w0 F n ops Q is D ((d, .tuple #[.int .i64 (-1), .bool false])::L) H):TX P w0 F n ops Q (i::is) D L H:=λa w f sm m=>by
 have hc:=m.chan k hk hH;have hr:=rl (P:=P) hop hz a.eval w;rw[f.eval hx]at hr;simp only[Option.map_some,f.eval hy]at hr;refine JS (v:= .tuple #[.int .i64 (-1), .bool false]) (w2:=w) ho (hw a f) hr (λfr cs es hs=>?_) ?_
 · have:=step_lone_sel_default hs (λcc hcc=>by
    obtain rfl:cc=scase c v z:=by simpa [scase]using hcc
    exact noWay_send hc (by simpa using hfull))
   rw[this];simp[commResult,goInt]
 · rw[hd]
   exact h _ _ (f.put (lb hn) _) sm m
theorem TX.recvBuf{x:Operand}{e c cap s r:Nat}{z v:Value}{vs:List Value}(k:Nat)(ho:ops[i]?=some o)(hw:Want n D ops o L)(hop:o.op= .select #[⟨x,none,e⟩] false)(hd:o.dst=some d)(hn:Nat.blt d n=true)(hz:(P.info? e).map (·.zero)=some (some z))
 (hx:cQ L x=some (.chan (some c))) (hk:Nat.blt k H.length=true) (hH:H.getD k (λ_=>True)=dR c cap (v::vs) s r)
 (h:TX P w0 F n ops Q is D ((d, .tuple #[.int .i64 0, .bool true,v])::L) (H.set k (dR c cap vs s (r+1)))):TX P w0 F n ops Q (i::is) D L H:=λa w f sm m=>by
 have hc:=m.chan k hk hH;have hr:=rl (P:=P) hop hz a.eval w;rw[f.eval hx]at hr;simp only[Option.map_none]at hr;refine JS (v:= .tuple #[.int .i64 0, .bool true,v]) (w2:=w.setChan c cap vs.toArray false s (r+1) false) ho (hw a f) hr (λfr cs es hs=>?_) ?_
 · have:=step_lone_sel_recv_buf (k:=0) hs rfl (λj c' hj hjc=>by cases j with|zero=>exact absurd rfl hj|succ j=>simp at hjc) hc (by simp)
   rw[this];simp[commResult,goInt]
 · rw[hd]
   exact h _ _ (f.put (lb hn) _) (sm.setChan ..) (m.setChan k hk hH)
theorem TX.recvNone{x:Operand}{e c cap s r:Nat}{z:Value}(k:Nat)(ho:ops[i]?=some o)(hw:Want n D ops o L)(hop:o.op= .select #[⟨x,none,e⟩] false)(hd:o.dst=some d)(hn:Nat.blt d n=true)(hz:(P.info? e).map (·.zero)=some (some z))
 (hx:cQ L x=some (.chan (some c))) (hk:Nat.blt k H.length=true) (hH:H.getD k (λ_=>True)=dR c cap [] s r)
 (h:TX P w0 F n ops Q is D ((d, .tuple #[.int .i64 (-1), .bool false,z])::L) H):TX P w0 F n ops Q (i::is) D L H:=λa w f sm m=>by
 have hc:=m.chan k hk hH;have hr:=rl (P:=P) hop hz a.eval w;rw[f.eval hx]at hr;simp only[Option.map_none]at hr;refine JS (v:= .tuple #[.int .i64 (-1), .bool false,z]) (w2:=w) ho (hw a f) hr (λfr cs es hs=>?_) ?_
 · have:=step_lone_sel_default hs (λcc hcc=>by
    obtain rfl:cc=rcase c z:=by simpa [rcase]using hcc
    exact noWay_recv hc)
   rw[this];simp[commResult,goInt]
 · rw[hd]
   exact h _ _ (f.put (lb hn) _) sm m
end
end Leg
namespace Leg
open Go Codec Api Go.Conc
section
variable {P:Program} {w0:World} {F:Hl} {n:Nat} {ops:Array Oper} {Q:QQ} {D:List Deferred} {L:List (Nat×Value)} {H:List HP} {d:Nat} {o:Oper}
theorem PV.lenChan{t e:TypeId}{dir:ChanDir}{x:Operand}{c cap s r:Nat}{vs:List Value}(k:Nat)(ho:o.op= .call {callee:= .builtin .len,args:=#[x],argTypes:=#[t]})(ht:P.underlying t=some (.chan dir e))(hx:cQ L x=some (.chan (some c)))
 (hk:Nat.blt k H.length=true) (hH:H.getD k (λ_=>True)=dR c cap vs s r):PV P n D L (Sat H F) o (.int .i64 ((vs.length:Nat):Int)):=λa w f m=>by
 have hl:=Conc.run_len_chan (P:=P) (w:=w) (dir:=dir) (e:=e) t o.type ht (m.chan k hk hH);simp[execOp,ho,resolve,f.eval hx,invoke,builtin,hl,goInt]
theorem PV.capChan{t e:TypeId}{dir:ChanDir}{x:Operand}{c cap s r:Nat}{vs:List Value}(k:Nat)(ho:o.op= .call {callee:= .builtin .cap,args:=#[x],argTypes:=#[t]})(ht:P.underlying t=some (.chan dir e))(hx:cQ L x=some (.chan (some c)))
 (hk:Nat.blt k H.length=true) (hH:H.getD k (λ_=>True)=dR c cap vs s r):PV P n D L (Sat H F) o (.int .i64 ((cap:Nat):Int)):=λa w f m=>by
 have hl:=Conc.run_cap_chan (P:=P) (w:=w) (dir:=dir) (e:=e) t o.type ht (m.chan k hk hH);simp[execOp,ho,resolve,f.eval hx,invoke,builtin,hl,goInt]
end
abbrev gA(T U b:Nat)(ls:List (List UInt8)):HP:=pack (λq:Nat×List Value×Nat×Nat=>[aj b [.chan (some q.1)] T,dR q.1 8 q.2.1 q.2.2.1 q.2.2.2,ej q.2.1 ls U])
def p6(T U:Nat)(bs:List Nat)(W:List (List (List UInt8)))(k:Nat):HP:=if k%6=0 then(λ_=>True)else gA T U (bs.getD k 0) (W.getD k [])
def ox(T U:Nat)(bs:List Nat)(W:List (List (List UInt8))):List HP:=(List.range 25).map (p6 T U bs W)
def ey(T U:Nat)(bs:List Nat)(W:List (List (List UInt8))):HP:=bH (ox T U bs W)
def fg(T U:Nat)(bs:List Nat)(W:List (List (List UInt8)))(k:Nat):HP:=bH ((ox T U bs W).eraseIdx k)
def dr(bs:List Nat):List Value:=(List.range 25).map λk=>if k%6=0 then .pointer none else .pointer (some ⟨bs.getD k 0,0,none⟩)
theorem At(bs:List Nat){k:Nat}(h:k<25):(dr bs)[k]?=some (if k%6=0 then .pointer none else .pointer (some ⟨bs.getD k 0,0,none⟩)):=by unfold dr;simp[h]
theorem xD(bs:List Nat):(dr bs).length=25:=by simp[dr]
abbrev dP(NT T U n:Nat)(W:List (List (List UInt8))):HP:=pack (λbs:List Nat=>[aj n (dr bs) NT,ey T U bs W])
section
variable {T U:Nat} {bs:List Nat} {W:List (List (List UInt8))} {k:Nat} {H:List HP} {h:Hl}
theorem Bl:(ox T U bs W).length=25:=by simp[ox]
theorem vW(hk:k<25)(s:bH (ey T U bs W::H) h):bH (p6 T U bs W k::fg T U bs W k::H) h:=by
 have s1:bH (ox T U bs W++H) h:=(bY _ _).2 s;have e:(ox T U bs W).getD k (λ_=>True)=p6 T U bs W k:=by simp[ox,List.getD_eq_getElem?_getD,hk]
 have p:=mj (λ_=>True) (ox T U bs W) k (by rw[Bl];exact hk);rw[e]at p;have s2:=dX (p.append_right H) s1;exact cA s2 (λ_ a=>a) λ_ b=>(bY _ _).1 b
theorem tA{W':List (List (List UInt8))}(hk:k<25)(hW: ∀j,j≠k→W'.getD j []=W.getD j [])(s:bH (p6 T U bs W' k::fg T U bs W k::H) h):bH (ey T U bs W'::H) h:=by
 have e0:(ox T U bs W').eraseIdx k=(ox T U bs W).eraseIdx k:=by
  refine List.ext_getElem? λj=>?_
  rw[List.getElem?_eraseIdx,List.getElem?_eraseIdx]
  have: ∀i,i≠k→(ox T U bs W')[i]?=(ox T U bs W)[i]?:=λi hi=>by
   simp only[ox,List.getElem?_map];cases q:(List.range 25)[i]?with
   |none=>rfl
   |some m=>
    have hm:m=i:=by
     by_cases hi25:i<25
     · simp[hi25]at q;exact q.symm
     · simp[hi25]at q
    subst hm;simp only[Option.map_some,p6,hW m hi]
  split
  · exact this j (by omega)
  · exact this (j+1) (by omega)
 have e:(ox T U bs W').getD k (λ_=>True)=p6 T U bs W' k:=by simp[ox,List.getD_eq_getElem?_getD,hk]
 have p:=mj (λ_=>True) (ox T U bs W') k (by rw[Bl];exact hk);rw[e,e0]at p;have s2:bH ((p6 T U bs W' k::(ox T U bs W).eraseIdx k)++H) h:=cA s (λ_ a=>a) λ_ b=>(bY _ _).2 b
 exact(bY _ _).1 (dX (p.symm.append_right H) s2)
end
def bq(from' to':Int):Nat:=from'.toNat*5+to'.toNat
def eX(w:Int):Bool:=decide (0≤w∧w<5)
theorem HJ{f t:Int}(hf:eX f=true)(ht:eX t=true):bq f t<25:=by
 have h1:0≤f∧f<5:=of_decide_eq_true hf;have h2:0≤t∧t<5:=of_decide_eq_true ht;unfold bq;omega
theorem sh{f t:Int}(hf:eX f=true)(ht:eX t=true):bq f t%6=0↔f=t:=by
 have h1:0≤f∧f<5:=of_decide_eq_true hf;have h2:0≤t∧t<5:=of_decide_eq_true ht;unfold bq;omega
end Leg
end

section
namespace Wal
open Go Leg Codec Api Dsk
end Wal
namespace Leg
open Go Codec Api
end Leg
namespace Leg
open Go Codec Api
theorem pM{us:List Value}{ls:List (List UInt8)}{e:Nat}{H:List HP}{F:Hl}{w:World}(i:Nat)(hi:Nat.blt i H.length=true)(hH:H.getD i (λ_=>True)=ej us ls e)(m:Sat H F w):us.length=ls.length∧∀u∈us,u.oneCell'=true:=by
 obtain⟨h,d,e',x⟩:=m;obtain⟨h1,h2,d',rfl,a,_⟩:=eI i (lb hi) x;rw[hH]at a;refine⟨a.1,λu hu=>?_⟩;obtain⟨j,hj,rfl⟩:=e4 hu;obtain⟨u,e1,k1,k2,dk,rfl,a3⟩:=vV us ls e _ a.1 a.2 j (by rw[←a.1];exact hj);rw[List.getElem?_eq_getElem hj]at e1;injection e1 with e1
 rw[e1];exact(zQ a3 (λb o q=>q):IsB u _ k1).one
section
variable {P:Program} {n:Nat} {D:List Deferred} {L:List (Nat×Value)} {S:World→Prop} {o:Oper}
end
end Leg
namespace Wal
open Go Leg Codec Api Dsk
end Wal
namespace Leg
open Go Codec Api
section
variable {P:Program} {n:Nat} {D:List Deferred} {L:List (Nat×Value)} {S:World→Prop} {o:Oper}
end
theorem FG{us:List Value}{ls:List (List UInt8)}{e:Nat}{u:Value}{l:List UInt8}{H:List HP}{h:Hl}(s:bH (ej (u::us) (l::ls) e::H) h):bH (gm u l e::ej us ls e::H) h:=by
 obtain⟨h1,h2,d,rfl,⟨hl,a⟩,b⟩:=s;obtain⟨g1,g2,d',rfl,a1,a2⟩:=a;exact mf.1 ⟨_,h2,d,rfl,⟨g1,g2,d',rfl,a1,⟨by simpa using hl,a2⟩⟩,b⟩
def yO(ls:List (List UInt8))(bs:List UInt8):List (List UInt8):=if ls.length<8 then ls++[bs]else ls
def dA(f t:Int):Bool:=eX f&&eX t&& !decide (f=t)
def nX(W:List (List (List UInt8)))(f t:Int)(bs:List UInt8):List (List (List UInt8)):=if dA f t then W.set (bq f t) (yO (W.getD (bq f t) []) bs)else W
theorem hJ{f t:Int}(h:dA f t=true):bq f t<25∧¬bq f t%6=0:=by
 unfold dA at h;rw[av,av]at h;refine⟨HJ h.1.1 h.1.2,λq=>?_⟩;have:=(sh h.1.1 h.1.2).1 q;rw[this]at h;simp at h
theorem pN{T U:Nat}{bs:List Nat}{W:List (List (List UInt8))}{k:Nat}(h: ¬k%6=0):p6 T U bs W k=gA T U (bs.getD k 0) (W.getD k []):=by unfold p6;rw[if_neg h]
theorem m4{T U:Nat}{bs:List Nat}{W:List (List (List UInt8))}{f t:Int}(hv:dA f t=true){H:List HP}{h:Hl}(s:bH (ey T U bs W::H) h):bH (gA T U (bs.getD (bq f t) 0) (W.getD (bq f t) [])::fg T U bs W (bq f t)::H) h:=by
 obtain⟨h1,h2⟩:=hJ hv;have:=vW h1 s
 rwa [pN h2]at this
theorem se{T U:Nat}{bs:List Nat}{W:List (List (List UInt8))}{f t:Int}{ls:List (List UInt8)}(hv:dA f t=true)(hW:W.length=25){H:List HP}{h:Hl}(s:bH (gA T U (bs.getD (bq f t) 0) ls::fg T U bs W (bq f t)::H) h):bH (ey T U bs (W.set (bq f t) ls)::H) h:=by
 obtain⟨h1,h2⟩:=hJ hv;refine tA (W:=W) h1 (λj hj=>?_) ?_
 · rw[List.getD_eq_getElem?_getD,List.getD_eq_getElem?_getD,List.getElem?_set_ne (λe=>hj e.symm)]
 · rw[pN h2,show(W.set (bq f t) ls).getD (bq f t) []=ls by rw[List.getD_eq_getElem?_getD,List.getElem?_set_self (by omega)];rfl]
   exact s
end Leg
namespace Leg
open Go Codec Api
def b8(w:Int):UInt8:=Wal.r8 w
theorem ug(w:Int):IntKind.u8.wrap w=(((b8 w).toNat:Nat):Int):=Wal.r8_wrap w
end Leg
end

section
namespace Go.Proofs.YtjblgopghhgflaaGreat
open Go Leg Codec Api Dsk Wal
theorem rT(b c s r:Nat)(us:List Value)(ls:List (List UInt8)):
 DT 100 #[(.pointer (some ⟨b,0,none⟩))] T0 [aj b [(.chan (some c))] 208,dR c 8 (us) (s) (r),ej (us) (ls) 5] (RI (.int .i64 ((ls.length:Nat):Int)) [aj b [(.chan (some c))] 208,dR c 8 (us) (s) (r),ej (us) (ls) 5]):=by
 refine BD 8 Tryz.func100 rfl rfl rfl λw0 F hF=>sr λ_ J1=>PS ?_
 refine nx J1 (sr λ_ J2=>wW (p:=us.length=ls.length) (λw m=>(pM 2 rfl rfl m).1) (λhul=>P2 ?_));refine FA 0 Bm sW ?_;refine LA 0 tM ?_;refine tp (PV.lenChan 1 rfl tM rfl rfl rfl) ?_;refine PS ?_;refine nx J2 (ai (WK [0,0,0] (aq rfl rfl ?_)));exact⟨by rw[hul],rfl⟩
theorem iR(b:Nat)(ls:List (List UInt8)):DT 100 #[.pointer (some ⟨b,0,none⟩)] T0 [gA 208 5 b ls] (RI (.int .i64 ((ls.length:Nat):Int)) [gA 208 5 b ls]):=
 Leg.Does.pack (B:=[]) λq=>Leg.Does.fold (rT b q.1 q.2.2.1 q.2.2.2 q.2.1 ls) λe H hp=>by
  cases e with
  |returned v=>
   obtain⟨rfl,rfl⟩:=hp;exact⟨_,λ_ s=>bi (p:=λq:Nat×List Value×Nat×Nat=>[aj b [.chan (some q.1)] 208,dR q.1 8 q.2.1 q.2.2.1 q.2.2.2,ej q.2.1 ls 5]) (H:=[]) q s,rfl,rfl⟩
  |panicked c=>exact hp.elim
  |outgrown=>exact hp.elim
theorem zo(b c s r:Nat)(us:List Value)(ls:List (List UInt8))(x:Value)(bs:List UInt8)(hb:bs.length≤1000000):
 DT 138 #[(.pointer (some ⟨b,0,none⟩)),x] (IsW x bs) [aj b [(.chan (some c))] 208,dR c 8 (us) (s) (r),ej (us) (ls) 5] (dw (λv H=>(ls.length<8∧v= .bool true∧∃u,H=[aj b [(.chan (some c))] 208,dR c 8 (us++[u]) (s+1) r,ej us ls 5,dL u bs 5])∨(¬ls.length<8∧v= .bool false∧H=[aj b [(.chan (some c))] 208,dR c 8 (us) (s) (r),ej (us) (ls) 5]))):=by
 refine Leg.Does.body (vs:=[(.pointer (some ⟨b,0,none⟩)),x]) (n:=15) Tryz.func138 rfl rfl rfl (λw0 F hF=>?_);refine sr λ_ J1=>?_
 refine oD ?_;refine nx J1 ?_;refine aa λ_ J2=>?_
 refine sr λ_ J3=>?_
 refine wW (p:=us.length=ls.length) (λw m=>(pM 2 rfl rfl m).1) (λhul=>?_);refine mv ?_;refine tp (fN rfl rfl) ?_;refine tp (a9 (r:=0) rfl Bm rfl sW rfl rfl) ?_;refine tp (gR (v:=(.chan (some c))) rfl tM rfl rfl (eR 0 rfl rfl) rfl) ?_;refine nx J3 ?_;refine af ?_;refine Br (ab rfl) rfl rfl rfl gk kS (λv9=>?_);change TL _ _ _ _ _ _ _ _ _ [dL v9 ([]) 5,aj b [(.chan (some c))] 208,dR c 8 (us) (s) (r),ej (us) (ls) 5];refine mv ?_;refine cG (k:=0) (news:=ek (bs)) (nn':=(bs:List UInt8).length) (xs':=ek (bs)) (ab rfl) rfl rfl rfl gk xQ rfl rfl rfl rfl rfl rfl (λ_ _=>hF.src (λ_ h=>e5 h)) (eU _) (by simp only[maxLen,aA];omega) (by simp only[aA];omega) (by simp) (ce _) (λv11 ov11=>?_);change TL _ _ _ _ _ _ _ _ _ [dL v11 (bs) 5,aj b [(.chan (some c))] 208,dR c 8 (us) (s) (r),ej (us) (ls) 5];refine nx J2 ?_;refine aa λ_ J4=>?_
 refine wX ?_;change TX _ _ _ _ _ _ [0,1,2] _ _ _
 by_cases hroom:us.length<8
 refine TX.sendRoom 2 rfl (ab rfl) rfl rfl rfl JP rfl rfl rfl rfl hroom ?_;change TX _ _ _ _ _ _ _ _ _ [dL v11 (bs) 5,aj b [(.chan (some c))] 208,dR c 8 (us++[v11]) (s+1) (r),ej (us) (ls) 5];refine rW rfl (ab rfl) rfl rfl (lp (vs:=[(.int .i64 0),(.bool false)]) rfl rfl rfl) ?_;refine rW rfl (ab rfl) rfl rfl (LJ rfl rfl rfl) ?_;refine IA ?_;refine ac J4 ?_;refine ap ?_;refine mC rfl ?_;refine sr λ_ J5=>?_
 refine oD ?_;refine nx J5 ?_;refine ai ?_;refine aH ?_;refine aE (dE _) (λ_ s=>ak [1,1,1,0] rfl s) ?_;refine aq rfl rfl ?_;exact Or.inl ⟨by omega,rfl,_,rfl⟩;refine TX.sendFull 2 rfl (ab rfl) rfl rfl rfl JP rfl rfl rfl rfl (by omega) ?_;refine rW rfl (ab rfl) rfl rfl (lp (vs:=[(.int .i64 (-1)),(.bool false)]) rfl rfl rfl) ?_;refine rW rfl (ab rfl) rfl rfl (LJ rfl rfl rfl) ?_;refine IA ?_;refine ac J4 ?_;refine ap ?_;refine Ea rfl ?_;refine sr λ_ J6=>?_
 refine oD ?_;refine nx J6 ?_;refine ai ?_;refine aH ?_;refine aE (dE _) (λ_ s=>ak [1,1,1] rfl s) ?_;refine aq rfl rfl ?_;exact Or.inr ⟨by omega,rfl,rfl⟩
theorem tC(b:Nat)(ls:List (List UInt8))(x:Value)(bs:List UInt8)(hb:bs.length≤1000000):DT 138 #[.pointer (some ⟨b,0,none⟩),x] (IsW x bs) [gA 208 5 b ls] (RI (.bool (decide (ls.length<8))) [gA 208 5 b (yO ls bs)]):=
 Leg.Does.pack (B:=[]) λq=>Leg.Does.fold (zo b q.1 q.2.2.1 q.2.2.2 q.2.1 ls x bs hb) λe H hp=>by
  cases e with
  |returned v=>
   unfold yO;rcases hp with⟨h8,rfl,u,rfl⟩| ⟨h8,rfl,rfl⟩
   · refine⟨[gA 208 5 b (ls++[bs])],λ_ s=>?_,by rw[decide_eq_true h8],by rw[if_pos h8]⟩
     have s1:=yz 3 rfl rfl s;have s2:=az [2,2] rfl s1;have s3:=sR s2;exact bi (p:=λq:Nat×List Value×Nat×Nat=>[aj b [.chan (some q.1)] 208,dR q.1 8 q.2.1 q.2.2.1 q.2.2.2,ej q.2.1 (ls++[bs]) 5]) (H:=[]) (q.1,q.2.1++[u],q.2.2.1+1,q.2.2.2) (az [1,1,0] rfl s3)
   · exact⟨[gA 208 5 b ls],λ_ s=>bi (p:=λq:Nat×List Value×Nat×Nat=>[aj b [.chan (some q.1)] 208,dR q.1 8 q.2.1 q.2.2.1 q.2.2.2,ej q.2.1 ls 5]) (H:=[]) q s,by rw[decide_eq_false h8],by rw[if_neg h8]⟩
  |panicked c=>exact hp.elim
  |outgrown=>exact hp.elim
theorem wU(b c s r:Nat)(us:List Value)(ls:List (List UInt8)):
 DT 139 #[(.pointer (some ⟨b,0,none⟩))] T0 [aj b [(.chan (some c))] 208,dR c 8 (us) (s) (r),ej (us) (ls) 5] (dw (λv H=>(ls=[]∧v= .tuple #[.slice none 0 0, .bool false]∧H=[aj b [(.chan (some c))] 208,dR c 8 [] s r,ej [] ls 5])∨(∃u us' f ls',ls=f::ls'∧v= .tuple #[u, .bool true]∧H=[aj b [(.chan (some c))] 208,dR c 8 us' s (r+1),ej (u::us') (f::ls') 5]))):=by
 refine BD 14 Tryz.func139 rfl rfl rfl λw0 F hF=>sr λ_ J1=>P2 ?_
 refine nx J1 (sr λ_ J2=>wW (p:=us.length=ls.length) (λw m=>(pM 2 rfl rfl m).1) (λhul=>P2 ?_));refine FA 0 Bm sW ?_;refine LA 0 tM ?_;refine nx J2 (aa λ_ J3=>wX ?_);rcases us with _| ⟨u,us⟩
 refine TX.recvNone 1 rfl (ab rfl) rfl rfl rfl JP rfl rfl rfl (rW rfl (ab rfl) rfl rfl (lp (vs:=[(.int .i64 (-1)),(.bool false),(.slice none 0 0)]) rfl rfl rfl) (rW rfl (ab rfl) rfl rfl (LJ rfl rfl rfl) (IA (ac J3 (ap (CN (sr λ_ J4=>P2 ?_)))))));exact nx J4 (ai (aH (WK [0,0,0] (ii rfl rfl rfl (Or.inl ⟨List.eq_nil_of_length_eq_zero hul.symm,rfl,rfl⟩)))));rcases ls with _| ⟨f,ls⟩
 · cases hul
 refine TX.recvBuf 1 rfl (ab rfl) rfl rfl rfl JP rfl rfl rfl (rW rfl (ab rfl) rfl rfl (lp (vs:=[(.int .i64 0),(.bool true),u]) rfl rfl rfl) (rW rfl (ab rfl) rfl rfl (LJ rfl rfl rfl) (IA (ac J3 (ap (CY (sr λ_ J5=>P2 ?_)))))));refine nx J5 (sr λ_ J6=>P3 ?_);exact nx J6 (ai (aH (WK [0,0,0] (ii rfl rfl rfl (Or.inr ⟨u,us,f,ls,rfl,rfl,rfl⟩)))))
theorem rS(b:Nat)(ls:List (List UInt8)):DT 139 #[.pointer (some ⟨b,0,none⟩)] T0 [gA 208 5 b ls] (dw (λv H=>(ls=[]∧v= .tuple #[.slice none 0 0, .bool false]∧H=[gA 208 5 b []])∨(∃u f ls',ls=f::ls'∧v= .tuple #[u, .bool true]∧H=[gA 208 5 b ls',gm u f 5]))):=
 Leg.Does.pack (B:=[]) λq=>Leg.Does.fold (wU b q.1 q.2.2.1 q.2.2.2 q.2.1 ls) λe H hp=>by
  cases e with
  |returned v=>
   rcases hp with⟨rfl,rfl,rfl⟩| ⟨u,us',f,ls',rfl,rfl,rfl⟩
   · exact⟨[gA 208 5 b []],λ_ s=>bi (p:=λq:Nat×List Value×Nat×Nat=>[aj b [.chan (some q.1)] 208,dR q.1 8 q.2.1 q.2.2.1 q.2.2.2,ej q.2.1 [] 5]) (H:=[]) (q.1,[],q.2.2.1,q.2.2.2) s,Or.inl ⟨rfl,rfl,rfl⟩⟩
   · refine⟨[gA 208 5 b ls',gm u f 5],λ_ s=>?_,Or.inr ⟨u,f,ls',rfl,rfl,rfl⟩⟩
     have s1:=az [2] rfl s;have s2:=FG s1;exact bi (p:=λq:Nat×List Value×Nat×Nat=>[aj b [.chan (some q.1)] 208,dR q.1 8 q.2.1 q.2.2.1 q.2.2.2,ej q.2.1 ls' 5]) (H:=[gm u f 5]) (q.1,us',q.2.2.1,q.2.2.2+1) (az [2,2,1,0] rfl s2)
  |panicked c=>exact hp.elim
  |outgrown=>exact hp.elim
theorem zp:
 DT 91 #[(.int .i64 8)] T0 [] (dw (λv H=>∃b c,v= .pointer (some ⟨b,0,none⟩)∧H=[aj b [(.chan (some c))] 208,dR c 8 [] 0 0])):=by
 refine BD 9 Tryz.func91 rfl rfl rfl λw0 F hF=>sr λ_ J1=>PS ?_
 refine nx J1 (sr λ_ J2=>PS ?_);refine tp (MV (v':=(.int .i64 8)) (w6 rfl rfl rfl) rfl) ?_;refine tp (MV (v':=(.int .i64 8)) (PV.minI rfl rfl rfl) rfl) ?_;refine TL.makeChan (k:=8) (bytes:=24) (ab rfl) rfl rfl rfl tM (by kernel_rfl) rfl (by omega) (by omega) (λc6=>BV #[(.chan (some c6))] ?_);refine XB λb8=>?_
 refine PS ?_;exact nx J2 (ai (WK [0,0] (aq rfl rfl ⟨b8,c6,rfl,rfl⟩)))
theorem Bk:DT 91 #[.int .i64 8] T0 [] (dw (λv H=>∃b,v= .pointer (some ⟨b,0,none⟩)∧H=[gA 208 5 b []])):=
 Leg.Does.fold zp λe H hp=>by
  cases e with
  |returned v=>
   obtain⟨b,c,rfl,rfl⟩:=hp;exact⟨[gA 208 5 b []],λ_ s=>bi (p:=λq:Nat×List Value×Nat×Nat=>[aj b [.chan (some q.1)] 208,dR q.1 8 q.2.1 q.2.2.1 q.2.2.2,ej q.2.1 [] 5]) (H:=[]) (c,[],0,0) (az [1,1,0] rfl (yb s)),b,rfl,rfl⟩
  |panicked c=>exact hp.elim
  |outgrown=>exact hp.elim
theorem oj(w:Int):
 DT 137 #[(.int .i64 (w))] T0 [] (RI (.bool (eX w)) []):=by
 refine BD 9 Tryz.func137 rfl rfl rfl λw0 F hF=>sr λ_ J1=>PS ?_
 refine nx J1 (sr λ_ J2=>P2 ?_);refine am ?_ ?_<;>intro h4
 iterate 5 refine PS ?_
 refine nx J2 (ai (WK [] (aq rfl rfl ?_)));exact⟨congrArg Value.bool (by unfold eX;simp only[decide_eq_decide];omega),rfl⟩;refine PS ?_;refine UF ?_;refine UF ?_;refine P2 ?_;refine nx J2 (ai (WK [] (aq rfl rfl ?_)));exact⟨congrArg Value.bool (by unfold eX;symm;exact decide_eq_false (by omega)),rfl⟩
theorem l7(n:Nat)(bs:List Nat)(from' to':Int):
 DT 99 #[(.pointer (some ⟨n,0,none⟩)),(.int .i64 (from')),(.int .i64 (to'))] T0 [aj n (dr bs) 156] (dw (λv H=>((dA from' to'=true∧v= .pointer (some ⟨(bs.getD (bq from' to') 0),0,none⟩))∨(dA from' to'=false∧v= .pointer none))∧H=[aj n (dr bs) 156])):=by
 refine BD 23 Tryz.func99 rfl rfl rfl λw0 F hF=>sr λ_ J1=>PS ?_
 refine nx J1 (aa λ_ J2=>sr λ_ J3=>PS ?_);refine CE IW (oj from') ID ?_;refine aX ?_ ?_<;>intro h8;have hf:0≤from'∧from'<5:=of_decide_eq_true h8
 refine PS ?_;refine P2 ?_;refine CE IW (oj to') ID ?_;refine aX ?_ ?_<;>intro h12;have ht:0≤to'∧to'<5:=of_decide_eq_true h12;refine PS ?_;refine PS ?_;refine nx J3 (CN (qx J2 (sr λ_ J4=>P4 ?_)));refine FA 0 Tryz.underlying156 Dl ?_;refine IX (((from').toNat)*5) Ix zO ?_;refine IX (((from').toNat)*5+(to').toNat) Hs Dm ?_;refine LT 0 wi (if bq from' to'%6=0 then .pointer none else .pointer (some ⟨(bs.getD (bq from' to') 0),0,none⟩)) ?_ (hc:=by exact At bs (k:=bq from' to') (by unfold bq;omega));refine PS ?_;refine nx J4 (ai (WK [0] (aq rfl rfl ⟨?_,rfl⟩)))
 by_cases hd:from'=to'
 · rw[if_pos ((sh h8 h12).2 hd)]
   exact Or.inr ⟨by unfold dA;rw[decide_eq_true hd];simp,rfl⟩
 · rw[if_neg (λq=>hd ((sh h8 h12).1 q))]
   exact Or.inl ⟨by unfold dA;rw[h8,h12,decide_eq_false hd];rfl,rfl⟩
 refine PS ?_;refine PS ?_;refine nx J3 (CY (sr λ_ J5=>PS ?_));refine nx J5 (ai (ae (WK [0] (aq rfl rfl ?_))));exact⟨Or.inr ⟨by unfold dA;rw[h12];simp,rfl⟩,rfl⟩;refine PS ?_;refine PS ?_
 iterate 3 refine UT ?_
 refine PS ?_;refine nx J3 (CY (sr λ_ J6=>PS ?_));refine nx J6 (ai (ae (WK [0] (aq rfl rfl ?_))));exact⟨Or.inr ⟨by unfold dA;rw[h8];simp,rfl⟩,rfl⟩
def rD(W:List (List (List UInt8)))(f t:Int):Bool:=dA f t&&decide ((W.getD (bq f t) []).length<8)
theorem wI(n:Nat)(bs:List Nat)(W:List (List (List UInt8)))(from' to':Int)(x:Value)(by':List UInt8)(hb:by'.length≤1000000)(hW:W.length=25):
 DT 202 #[(.pointer (some ⟨n,0,none⟩)),(.int .i64 (from')),(.int .i64 (to')),x] (IsW x by') [aj n (dr bs) 156,ey 208 5 bs W] (RI (.bool (rD W from' to')) [aj n (dr bs) 156,ey 208 5 bs (nX W from' to' by')]):=by
 refine BD 21 Tryz.func202 rfl rfl rfl λw0 F hF=>sr λ_ J1=>PS ?_
 refine nx J1 (sr λ_ J2=>P3 ?_);refine CR Cj (l7 n bs from' to') ID λvR HR hR=>?_
 obtain⟨hw,rfl⟩:=hR;rcases hw with⟨hv,rfl⟩| ⟨hv,rfl⟩
 refine PS ?_;refine nx J2 (sr λ_ J3=>PS ?_);refine tp (iS rfl wi rfl rfl) ?_;refine P3 ?_;refine cp (H':=[gA 208 5 (bs.getD (bq from' to') 0) (W.getD (bq from' to') []),fg 208 5 bs W (bq from' to'),aj n (dr bs) 156]) (λ_ s=>m4 hv (az [1] rfl s)) (CF GF (tC (bs.getD (bq from' to') 0) (W.getD (bq from' to') []) x by' hb) ID (λ_ d _=>LO hF d) ?_);refine P2 ?_;refine nx J3 (ai (aE (H':=[aj n (dr bs) 156,ey 208 5 bs (nX W from' to' by')]) (dE _) (λ_ s=>by unfold nX;rw[if_pos hv];exact az [1,0] rfl (se hv hW (az [0,0,0] rfl s))) (aq rfl rfl ?_)));exact⟨by unfold rD;rw[hv];rfl,rfl⟩;refine PS ?_;refine nx J2 (sr λ_ J4=>PS ?_);refine tp (iz rfl wi rfl rfl) ?_;refine PS ?_
 iterate 3 refine UF ?_
 refine P2 ?_;refine nx J4 (ai (WK [0,0] (aq rfl rfl ?_)));exact⟨by unfold rD;rw[hv];rfl,by unfold nX;rw[hv];rfl⟩
theorem yV(n:Nat)(W:List (List (List UInt8)))(from' to':Int)(x:Value)(by':List UInt8)(hb:by'.length≤1000000)(hW:W.length=25):DT 202 #[.pointer (some ⟨n,0,none⟩), .int .i64 from', .int .i64 to',x] (IsW x by') [dP 156 208 5 n W] (RI (.bool (rD W from' to')) [dP 156 208 5 n (nX W from' to' by')]):=
 Leg.Does.pack (B:=[]) λbs=>Leg.Does.fold (wI n bs W from' to' x by' hb hW) λe H hp=>by
  cases e with
  |returned v=>
   obtain⟨rfl,rfl⟩:=hp;exact⟨_,λ_ s=>bi (p:=λbs:List Nat=>[aj n (dr bs) 156,ey 208 5 bs (nX W from' to' by')]) (H:=[]) bs s,rfl,rfl⟩
  |panicked c=>exact hp.elim
  |outgrown=>exact hp.elim
def iP(f t:Int)(bs:List UInt8):List UInt8:=o7 ([b8 f,b8 t]++bs)
theorem vJ(from' to':Int)(x:Value)(by':List UInt8)(hb:by'.length≤100000):
 DT 52 #[(.int .i64 (from')),(.int .i64 (to')),x] (IsW x by') [] (dw (λv H=>∃u,v=u∧H=[dL u (iP from' to' by') 5])):=by
 refine BD 23 Tryz.func52 rfl rfl rfl λw0 F hF=>sr λ_ J1=>PS ?_
 refine nx J1 (sr λ_ J2=>PS ?_);refine tp (cu rfl gk rfl hF.len) ?_;refine AD ?_;refine TL.makeB (0) (2+by'.length) (ab rfl) rfl rfl rfl gk xQ rfl rfl rfl (by omega) (by omega) (by omega) (λb11=>cp (H':=[dL (.slice (some ⟨b11,0,none⟩) 0 (2+by'.length)) ([]) 5]) (λ_ s=>Dr 0 rfl rfl (by omega) (by simp only[maxLen];omega) (by simp[ek]) rfl s) (PS ?_));refine nx J2 (sr λ_ J3=>P2 ?_);refine tp (eg (r:=(((b8 from').toNat:Nat):Int)) rfl Y3 Y5 rfl (ug _)) ?_;refine PS ?_;refine tp (eg (r:=(((b8 to').toNat:Nat):Int)) rfl Y3 Y5 rfl (ug _)) ?_;refine aU (cells:=#[(.int .u8 ((((b8 from').toNat:Nat):Int))),(.int .u8 ((((b8 to').toNat:Nat):Int)))]) (ab rfl) rfl rfl rfl gk xQ rfl rfl rfl (by as_aux_lemma=>kernel_rfl) (λb17=>cG (k:=1) (news:=ek ([(b8 from'),(b8 to')])) (nn':=([(b8 from'),(b8 to')]:List UInt8).length) (xs':=ek ([(b8 from'),(b8 to')])) (ab rfl) rfl rfl rfl gk xQ rfl rfl rfl rfl rfl rfl (λ_ _=>jg rfl (RO 0) rfl) (eU [(b8 from'),(b8 to')]) (by simp only[maxLen,aA,ax];omega) (by simp only[aA,ax];omega) (by simp<;>omega) (ce _) (λv18 ov18=>PS ?_));refine nx J3 (sr λ_ J4=>P2 ?_)
 refine cG (k:=1) (news:=ek (by')) (nn':=([(b8 from'),(b8 to')]++by':List UInt8).length) (xs':=ek ([(b8 from'),(b8 to')]++by')) (ab rfl) rfl rfl rfl gk xQ rfl rfl rfl rfl rfl rfl (λ_ _=>hF.src (λ_ h=>e5 h)) (eU _) (by simp only[maxLen,ad,ax,aA];omega) (by simp only[ad,ax,aA];omega) (by simp<;>omega) (iC _ _).symm (λv21 ov21=>CQ Kt (sZ v21 ([(b8 from'),(b8 to')]++by') (by simp only[ad,ax,aA];omega)) ID (λg d s=>Jf (tW 1 rfl rfl g d s)) λvR HR hR=>?_);have hR:=hR;subst hR;refine PS ?_;exact nx J4 (ai (WK [0] (aq rfl rfl ⟨_,rfl,rfl⟩)))
theorem n4(f t:Int)(bs:List UInt8):(iP f t bs).length=bs.length+6:=by
 unfold iP;rw[kf];simp only[ad,ax,aA];omega
theorem wN(n:Nat)(W:List (List (List UInt8)))(from' to':Int)(x:Value)(by':List UInt8)(hb:by'.length≤3000)(hW:W.length=25):
 DT 204 #[(.pointer (some ⟨n,0,none⟩)),(.int .i64 (from')),(.int .i64 (to')),x] (IsW x by') [dP 156 208 5 n (W)] (RI (.bool (rD W from' to')) [dP 156 208 5 n (nX W from' to' (iP from' to' by'))]):=by
 refine BD 24 Tryz.func204 rfl rfl rfl λw0 F hF=>?_
 have hfl:(iP from' to' by').length≤1000000:=by rw[n4];omega
 refine sr λ_ J1=>PS ?_
 refine nx J1 (aa λ_ J2=>sr λ_ J3=>PS ?_);refine tp (jF rfl Hr rfl rfl) ?_;refine P2 ?_;refine tq (cu rfl gk rfl hF.len) ?_;refine PS ?_;refine am ?_ ?_<;>intro h14
 · exact absurd h14 (by omega)
 refine PS ?_;refine nx J3 (CN (qx J2 (sr λ_ J4=>?_)))
 iterate 6 refine PS ?_
 refine CQ KG (vJ from' to' x by' (by omega)) ID (λ_ d _=>LO hF d) λvR HR hR=>?_
 obtain⟨_,rfl,rfl⟩:=hR;revert vR;intro uf;refine CF KL (yV n W from' to' uf (iP from' to' by') hfl hW) (SM [1]) (λg d s=>Jf (tW 0 rfl rfl g d s)) ?_;refine PS ?_;exact nx J4 (ai (WK [0] (aq rfl rfl ⟨rfl,rfl⟩)))
theorem wO(from' to':Int)(x:Value)(by':List UInt8)(h0:0<by'.length)(hb:by'.length≤100000):
 DT 140 #[(.int .i64 (from')),(.int .i64 (to')),x] (IsW x (iP from' to' by')) [] (dw (λv H=>∃u,v= .tuple #[u, .bool true]∧H=[gm u by' 5])):=by
 refine BD 40 Tryz.func140 rfl rfl rfl λw0 F hF=>?_
 have hfl:(iP from' to' by').length≤1000000000:=by rw[n4];omega
 refine sr λ_ J1=>P2 ?_
 refine nx J1 (sr λ_ J2=>PS ?_);refine CQ IN (xl x (iP from' to' by') hfl) ID (λ_ d _=>LO hF d) λvR HR hR=>?_
 rcases hR with⟨ht',_,_⟩| ⟨t,u,ht',rfl,rfl⟩
 · exact absurd ht' (by unfold iP;rw[qc];simp)
 obtain rfl:t=([b8 from',b8 to']++by'):=by unfold iP at ht';rw[qc]at ht';exact(cR ht').symm
 refine fG 0 rfl rfl (by simp) (λg cap hv hcap=>?_);have hv2:u= .slice (some ⟨g,0,none⟩) (by'.length+2) cap:=hv;refine P4 ?_;refine PS ?_;refine nx J2 (aa λ_ J3=>sr λ_ J4=>PS ?_);refine PS ?_;refine P2 ?_;refine tq (cu rfl gk rfl (by rw[hv2];exact⟨_,_,rfl⟩)) ?_;refine PS ?_;refine am ?_ ?_<;>intro h20
 · exact absurd h20 (by omega)
 refine P3 ?_;refine tq (bv (r:=0) hv2 rfl gk kS rfl rfl (by omega) (by omega) rfl) ?_;refine tq (cV (v:=(.int .u8 ((((b8 from').toNat:Nat):Int)))) rfl Y5 rfl rfl (dT 0 rfl hv rfl) (p9 (l:=([b8 from',b8 to']++by')) (j:=0) (by simp))) ?_;refine PS ?_;refine tq (eg (r:=(((b8 from').toNat:Nat):Int)) rfl Y3 Y5 rfl (ug _)) ?_;refine PS ?_;refine am ?_ ?_<;>intro h28
 · exact absurd rfl h28
 refine P3 ?_;refine tq (bv (r:=1) hv2 rfl gk kS rfl rfl (by omega) (by omega) rfl) ?_;refine tq (cV (v:=(.int .u8 ((((b8 to').toNat:Nat):Int)))) rfl Y5 rfl rfl (dT 0 rfl hv rfl) (p9 (l:=([b8 from',b8 to']++by')) (j:=1) (by simp))) ?_;refine PS ?_;refine tq (eg (r:=(((b8 to').toNat:Nat):Int)) rfl Y3 Y5 rfl (ug _)) ?_;refine PS ?_;refine am ?_ ?_<;>intro h36
 · exact absurd rfl h36
 refine PS ?_;refine nx J4 (CN (qx J3 (sr λ_ J5=>PS ?_)));refine tp (MV (PV.sliceL (a:=some ⟨g,0,none⟩) (len:=by'.length+2) (cap:=cap) (lo:=2) rfl gk kS (by rw[←hv2];rfl) rfl rfl (by omega)) (congrArg (λq=>jC q 2 (by'.length+2)) hv2.symm)) ?_;refine P2 ?_;exact nx J5 (ai (aE (H':=[gm (jC u 2 (by'.length+2)) by' 5]) (dE _) (λ_ s=>uR 0 rfl rfl hv (by omega) (by simp) (by simp;omega) (by simp) s) (ii rfl rfl rfl ⟨_,rfl,rfl⟩)))
theorem vC(n:Nat)(bs:List Nat)(W:List (List (List UInt8)))(from' to':Int)(by':List UInt8)(ls:List (List UInt8))(hv:dA from' to'=true)(hW:W.length=25)(hk:W.getD (bq from' to') []=iP from' to' by'::ls)(h0:0<by'.length)(hb:by'.length≤100000):
 DT 103 #[(.pointer (some ⟨n,0,none⟩)),(.int .i64 (from')),(.int .i64 (to'))] T0 [aj n (dr bs) 156,ey 208 5 bs (W)] (dw (λv H=>∃u,v= .tuple #[u, .bool true]∧H=[aj n (dr bs) 156,ey 208 5 bs (W.set (bq from' to') ls),gm u by' 5])):=by
 refine BD 32 Tryz.func103 rfl rfl rfl λw0 F hF=>sr λ_ J1=>P2 ?_
 refine nx J1 (aa λ_ J2=>sr λ_ J3=>PS ?_);refine tp (jF rfl Hr rfl rfl) ?_;refine nx J3 (CN (qx J2 (sr λ_ J4=>P3 ?_)));refine CR Cj (l7 n bs from' to') ID λvR HR hR=>?_
 obtain⟨hw,rfl⟩:=hR;obtain⟨_,rfl⟩:dA from' to'=true∧vR= .pointer (some ⟨(bs.getD (bq from' to') 0),0,none⟩):=hw.resolve_right (λq=>by rw[hv]at q;cases q.1)
 refine PS ?_;refine nx J4 (aa λ_ J5=>sr λ_ J6=>PS ?_);refine tp (jF rfl wi rfl rfl) ?_;refine nx J6 (CN (qx J5 (sr λ_ J7=>PS ?_)));refine cp (H':=[gA 208 5 (bs.getD (bq from' to') 0) (W.getD (bq from' to') []),fg 208 5 bs W (bq from' to'),aj n (dr bs) 156]) (λ_ s=>m4 hv (az [1] rfl s)) (CR IV (rS (bs.getD (bq from' to') 0) (W.getD (bq from' to') [])) ID λvR HR hR=>?_);rcases hR with⟨he,_,_⟩| ⟨u,f,ls',he,rfl,rfl⟩
 · rw[he]at hk;cases hk
 rw[hk]at he;obtain⟨rfl,rfl⟩:=List.cons.inj he;refine P4 ?_;refine PS ?_;refine nx J7 (aa λ_ J8=>sr λ_ J9=>PS ?_);refine PS ?_;refine nx J9 (CN (qx J8 (sr λ_ J10=>P3 ?_)));refine CQ Lh (wO from' to' u by' h0 hb) ID (λg d s=>Jf (y5 1 rfl rfl g d s)) λvR HR hR=>?_
 obtain⟨uv,rfl,rfl⟩:=hR;refine P4 ?_;exact nx J10 (ai (aE (H':=[aj n (dr bs) 156,ey 208 5 bs (W.set (bq from' to') ls),gm uv by' 5]) (dE _) (λ_ s=>az [1,0] rfl (se hv hW (ak [1,2,2,0] rfl s))) (ii rfl rfl rfl ⟨_,rfl,rfl⟩)))
theorem pY(n:Nat)(W:List (List (List UInt8)))(from' to':Int)(by':List UInt8)(ls:List (List UInt8))(hv:dA from' to'=true)(hW:W.length=25)(hk:W.getD (bq from' to') []=iP from' to' by'::ls)(h0:0<by'.length)(hb:by'.length≤100000):DT 103 #[.pointer (some ⟨n,0,none⟩), .int .i64 from', .int .i64 to'] T0 [dP 156 208 5 n W] (dw (λv H=>∃u,v= .tuple #[u, .bool true]∧H=[dP 156 208 5 n (W.set (bq from' to') ls),gm u by' 5])):=
 Leg.Does.pack (B:=[]) λbs=>Leg.Does.fold (vC n bs W from' to' by' ls hv hW hk h0 hb) λe H hp=>by
  cases e with
  |returned v=>
   obtain⟨u,rfl,rfl⟩:=hp;exact⟨[dP 156 208 5 n (W.set (bq from' to') ls),gm u by' 5],λ_ s=>bi (p:=λbs:List Nat=>[aj n (dr bs) 156,ey 208 5 bs (W.set (bq from' to') ls)]) (H:=[gm u by' 5]) bs s,u,rfl,rfl⟩
  |panicked c=>exact hp.elim
  |outgrown=>exact hp.elim
end Go.Proofs.YtjblgopghhgflaaGreat
end

section
namespace Leg
open Go Codec Api
section
variable {P:Program} {n:Nat} {D:List Deferred} {L:List (Nat×Value)} {S:World→Prop} {o:Oper}
theorem PV.ptrNeIf{c:Prop}[Decidable c]{t t':TypeId}{x y:Operand}{a:Addr}(ho:o.op= .binOp .neq t x y t')(ht:P.underlying t=some (.pointer (P.pointee t)))(hx:cQ L x=some (if c then .pointer none else .pointer (some a)))(hy:cQ L y=some (.pointer none)):PV P n D L S o (.bool (!decide c)):=by
 by_cases h:c
 · rw[if_pos h]at hx;rw[decide_eq_true h];exact iz ho ht hx hy
 · rw[if_neg h]at hx;rw[decide_eq_false h];exact iS ho ht hx hy
end
abbrev Gs(bs:List Nat)(k:Nat):Value:=if k%6=0 then .pointer none else .pointer (some ⟨bs.getD k 0,0,none⟩)
def rq(bs:List Nat)(i:Nat):List Value:=(List.range 5).map λj=>Gs bs (i*5+j)
theorem nd(bs:List Nat)(i:Nat):(rq bs i).length=5:=by simp[rq]
theorem Gg(bs:List Nat)(i:Nat): ∀v∈rq bs i,v.oneCell'=true:=by
 intro v hv;simp only[rq,eH]at hv;obtain⟨j,_,rfl⟩:=hv;show(if _ then _ else _:Value).oneCell'=true;split<;>rfl
theorem Du(bs:List Nat)(i:Nat){j:Nat}(h:j<5):(rq bs i)[j]?=some (Gs bs (i*5+j)):=by simp[rq,h]
theorem Gh(bs:List Nat){i:Nat}(h:i<5):((dr bs).drop (i*5)).take 5=rq bs i:=by
 refine List.ext_getElem? λj=>?_
 by_cases hj:j<5
 · rw[List.getElem?_take_of_lt hj,List.getElem?_drop,At bs (by omega),Du bs i hj]
 · rw[List.getElem?_eq_none (by rw[bo];omega),List.getElem?_eq_none (by rw[nd];omega)]
def k0(W:List (List (List UInt8)))(k:Nat):Nat:=((List.range k).map λq=>if q%6=0 then 0 else(W.getD q []).length).sum
theorem qw(W:List (List (List UInt8)))(k:Nat):k0 W (k+1)=k0 W k+(if k%6=0 then 0 else(W.getD k []).length):=by simp[k0,cS]
def kW(bs:List Nat):List Value:=(List.range 25).map λq=>if q%6=0∨bs.length≤q then .pointer none else .pointer (some ⟨bs.getD q 0,0,none⟩)
theorem xE(bs:List Nat):(kW bs).length=25:=by simp[kW]
theorem EY{bs:List Nat}{b:Nat}(h:bs.length<25)(hd: ¬bs.length%6=0):(kW bs).set bs.length (.pointer (some ⟨b,0,none⟩))=kW (bs++[b]):=by
 refine List.ext_getElem? λj=>?_
 by_cases hj:j=bs.length
 · subst hj
   rw[List.getElem?_set_self (by rw[xE];exact h)];simp[kW,h,hd,List.getD_eq_getElem?_getD]
 · rw[List.getElem?_set_ne (λe=>hj e.symm)]
   simp only[kW,List.getElem?_map];cases hr:(List.range 25)[j]?with
   |none=>rfl
   |some q=>
    have hq:q=j:=by
     by_cases h25:j<25
     · simp[h25]at hr;exact hr.symm
     · simp[h25]at hr
    subst hq;simp only[Option.map_some,ad,ax,aA];congr 1
    by_cases hlt:q<bs.length
    · simp[show ¬bs.length≤q by omega,show ¬bs.length+1≤q by omega,List.getElem?_append_left hlt]
    · simp[show bs.length≤q by omega,show bs.length+1≤q by omega]
theorem Cd{bs:List Nat}{b:Nat}(hd:bs.length%6=0):kW (bs++[b])=kW bs:=by
 unfold kW;refine dM λq hq=>?_
 rw[ad,fW]
 by_cases hq6:q%6=0
 · simp[hq6]
 · by_cases hlt:q<bs.length
   · simp[hq6,show ¬bs.length≤q by omega,show ¬bs.length+1≤q by omega,List.getElem?_append_left hlt]
   · have: ¬q=bs.length:=λe=>hq6 (by rw[e];exact hd)
     simp[show bs.length≤q by omega,show bs.length+1≤q by omega]
theorem EZ{bs:List Nat}(h:bs.length=25):kW bs=dr bs:=by
 unfold kW dr;refine dM λq hq=>?_
 rw[eN]at hq;simp[show ¬bs.length≤q by omega]
def n9(T U:Nat)(bs:List Nat)(q:Nat):HP:=if q%6=0 then(λ_=>True)else gA T U (bs.getD q 0) []
def jS(T U:Nat)(bs:List Nat):HP:=bH ((List.range bs.length).map (n9 T U bs))
theorem C6(T U:Nat){H:List HP}{h:Hl}(s:bH H h):bH (jS T U []::H) h:=⟨em,h,Bu h,(p2 h).symm,trivial,s⟩
theorem C7(T U:Nat)(bs:List Nat)(b:Nat):(List.range bs.length).map (n9 T U (bs++[b]))=(List.range bs.length).map (n9 T U bs):=
 dM λq hq=>by
  rw[eN]at hq;unfold n9;rw[show(bs++[b]).getD q 0=bs.getD q 0 by simp[List.getElem?_append_left hq]]
theorem tB(T U:Nat)(bs:List Nat)(b:Nat){H:List HP}{h:Hl}(s:bH (n9 T U (bs++[b]) bs.length::jS T U bs::H) h):bH (jS T U (bs++[b])::H) h:=by
 have e:(List.range (bs++[b]).length).map (n9 T U (bs++[b]))=(List.range bs.length).map (n9 T U bs)++[n9 T U (bs++[b]) bs.length]:=by
  rw[ad,fW,cS,co,C7];rfl
 obtain⟨h1,h2,d,rfl,a,b'⟩:=s;have s2:bH ((n9 T U (bs++[b]) bs.length::(List.range bs.length).map (n9 T U bs))++H) (jn h1 h2):=⟨h1,h2,d,rfl,a,(bY _ _).2 b'⟩;have p:((n9 T U (bs++[b]) bs.length::(List.range bs.length).map (n9 T U bs))++H).Perm (((List.range bs.length).map (n9 T U bs)++[n9 T U (bs++[b]) bs.length])++H):=(List.perm_append_comm (l₁:=[n9 T U (bs++[b]) bs.length])).append_right H;have s3:=dX p s2;rw[←e]at s3;exact(bY _ _).1 s3
theorem Bj(T U:Nat)(bs:List Nat)(hd:bs.length%6=0){H:List HP}{h:Hl}(s:bH (jS T U bs::H) h):bH (jS T U (bs++[0])::H) h:=by
 refine tB T U bs 0 ⟨em,h,Bu h,(p2 h).symm,?_,s⟩;unfold n9;rw[if_pos hd];trivial
theorem C8{T U:Nat}{bs:List Nat}(h:bs.length=25):jS T U bs=ey T U bs (List.replicate 25 []):=by
 unfold jS ey ox;rw[h];refine congrArg bH ?_;refine dM λq hq=>?_
 rw[eN]at hq;unfold n9 p6;rw[show(List.replicate 25 ([]:List (List UInt8))).getD q []=[]by rw[List.getD_eq_getElem?_getD,List.getElem?_replicate,if_pos hq];rfl]
theorem Hj{T U:Nat}{bs:List Nat}{W:List (List (List UInt8))}{k:Nat}(h6: ¬k%6=0)(hk:k<25){H:List HP}{h:Hl}(s:bH (ey T U bs W::H) h):bH (gA T U (bs.getD k 0) (W.getD k [])::fg T U bs W k::H) h:=by
 have:=vW hk s
 rwa [pN h6]at this
theorem Hi{T U:Nat}{bs:List Nat}{W:List (List (List UInt8))}{k:Nat}(h6: ¬k%6=0)(hk:k<25){H:List HP}{h:Hl}(s:bH (gA T U (bs.getD k 0) (W.getD k [])::fg T U bs W k::H) h):bH (ey T U bs W::H) h:=by
 refine tA (W:=W) hk (λ_ _=>rfl) ?_;rw[pN h6];exact s
end Leg
end

section
namespace Go.Proofs.YtjblgopghhgflaaGreat
open Go Leg Codec Api Dsk Wal
theorem yW(n:Nat)(bs:List Nat)(W:List (List (List UInt8)))(hsm: ∀k,k<25→k0 W k+(W.getD k []).length≤1000000000):
 DT 66 #[(.pointer (some ⟨n,0,none⟩))] T0 [aj n (dr bs) 156,ey 208 5 bs (W)] (RI (.int .i64 ((k0 W 25:Nat):Int)) [aj n (dr bs) 156,ey 208 5 bs W]):=by
 refine BD 28 Tryz.func66 rfl rfl rfl λw0 F hF=>sr λ_ J1=>PS ?_
 refine nx J1 (sr λ_ J2=>PS ?_);refine nx J2 (aa λ_ J3=>sr λ_ J4=>P2 ?_);refine FA 0 Tryz.underlying156 Dl ?_;refine tp (aK (vs:=dr bs) rfl Ix rfl Dl rfl (RO 0) (xD bs) (uD (xD bs))) ?_;refine PS ?_;refine nx J4 (ap ?_)
 refine bB (α:=(Nat)) (λi=>i≤5) (λi=>[(2,(.int .i64 0)),(3,(.int .i64 (((k0 W (i*5):Nat):Int)))),(11,(.agg (dr bs).toArray)),(12,(.int .i64 (((i:Nat):Int))))]) (λi=>[aj n (dr bs) 156,ey 208 5 bs (W)]) (λi=>5-i) 0
  (aN _) SB
  (λ_ s=>s) (λi hinv=>?_)
 obtain hi:=hinv;refine sr λ_ J5=>PS ?_
 refine am ?_ ?_<;>intro h13;refine nx J5 (aa λ_ J6=>CY (qx J6 (aa λ_ J7=>ap (sr λ_ J8=>tp (MX (cs:=dr bs) (vs:=rq bs i) (r:=i*5) rfl Ix Hs rfl zO rfl rfl (by omega) (by omega) (by omega) (Gh bs (by omega))) ?_))));refine XA Me λb5=>?_
 refine ck (vs:=rq bs i) (i:=0) (ab rfl) rfl rfl rfl rfl rfl (by rw[nd bs i];exact zO) (Gg bs i) rfl rfl (by rw[nd bs i];exact aP _) (iB (Eq.trans (rfl:_=5) (by rw[nd bs i]:(rq bs i).length=5).symm)) rfl (nx J8 (sr λ_ J9=>tp (aK (vs:=rq bs i) rfl Hs rfl zO rfl (RO 0) (nd bs i) (uD (nd bs i))) ?_));refine PS ?_;refine nx J9 (ap ?_)
 refine bB (α:=(Nat)) (λj=>j≤5) (λj=>[(2,(.int .i64 0)),(3,(.int .i64 (((k0 W (i*5+j):Nat):Int)))),(11,(.agg (dr bs).toArray)),(12,(.int .i64 (((i:Nat):Int)))),(15,(.agg (rq bs i).toArray)),(16,(.int .i64 (((j:Nat):Int))))]) (λj=>[aj n (dr bs) 156,ey 208 5 bs (W)]) (λj=>5-j) 0
  (aN _) SB
  (λ_ s=>ak [1,1] rfl s) (λj hinv=>?_)
 obtain hj:=hinv;refine sr λ_ J10=>PS ?_
 refine am ?_ ?_<;>intro h17;refine nx J10 (aa λ_ J11=>CY (qx J11 (aa λ_ J12=>ap (sr λ_ J13=>tp (qU (cs:=rq bs i) (v:=Gs bs (i*5+j)) (r:=j) rfl Hs wi rfl Dm rfl rfl (by omega) (by omega) (by omega) (Du bs i (by omega))) ?_))));refine PS ?_;refine nx J13 (sr λ_ J14=>PS ?_);refine tp (PV.ptrNeIf rfl wi rfl rfl) ?_;refine aX ?_ ?_<;>intro h20;have h20: ¬((i*5+j)%6=0):=by simpa using h20
 refine TL.weak (L':=[(2,(.int .i64 0)),(3,(.int .i64 (((k0 W (i*5+j):Nat):Int)))),(7,(.pointer (some ⟨(bs.getD (i*5+j) 0),0,none⟩))),(11,(.agg (dr bs).toArray)),(12,(.int .i64 (((i:Nat):Int)))),(15,(.agg (rq bs i).toArray)),(16,(.int .i64 (((j:Nat):Int)))),(17,(.bool true)),(18,(Gs bs (i*5+j))),(19,(Gs bs (i*5+j))),(20,(.bool true))]) (bC rfl rfl (bC rfl rfl (bC rfl (if_neg h20) (bC rfl rfl (bC rfl rfl (bC rfl rfl (bC rfl rfl (bC rfl rfl (bC rfl rfl (bC rfl rfl (bC rfl rfl SB))))))))))) (λ_ s=>s) (cp (H':=[gA 208 5 (bs.getD (i*5+j) 0) (W.getD (i*5+j) []),fg 208 5 bs W (i*5+j),aj n (dr bs) 156]) (λ_ s=>Hj h20 (by omega) (az [1] rfl s)) (nx J14 (CY (af (P2 ?_)))));refine CE ti (iR (bs.getD (i*5+j) 0) (W.getD (i*5+j) [])) ID ?_;refine tp (cw (r:=((k0 W (i*5+j)+(W.getD (i*5+j) []).length:Nat):Int)) rfl rfl rfl (by rw[←Int.natCast_add];exact bI (by omega) (by have:=hsm (i*5+j) (by omega);omega))) ?_;refine PS ?_;refine au (ag (ac J12 (af (AD ?_))));refine PS ?_;refine au ?_
 exact aJ ((j+1):(Nat)) (by omega) (by show 5- (j+1)<5-j;omega)
  (aS (bC rfl (by rw[show k0 W (i*5+(j+1))=k0 W (i*5+j)+(W.getD (i*5+j) []).length from by rw[←oF,qw,if_neg h20]]) SB))
  (λ_ s=>az [1,0] rfl (Hi h20 (by omega) (ak [0,0,0] rfl s)))
 refine nx J14 (CN (aQ (ag (ac J12 (af (AD ?_))))));refine PS ?_;refine au ?_
 exact aJ ((j+1):(Nat)) (by omega) (by show 5- (j+1)<5-j;omega)
  (aS (bC rfl (by rw[show k0 W (i*5+(j+1))=k0 W (i*5+j)from by rw[←oF,qw,if_pos (by simpa using h20),xb]]) SB))
  (λ_ s=>s)
 refine nx J10 (aa λ_ J15=>CN (aZ (aB (aB (bw (ag (ac J7 (af (AD ?_)))))))));refine PS ?_;refine au ?_
 exact aJ ((i+1):(Nat)) (by omega) (by show 5- (i+1)<5-i;omega)
  (aS (bC rfl (by rw[show(i+1)*5=i*5+j by omega]) SB))
  (λ_ s=>s)
 refine nx J5 (aa λ_ J16=>CN (aZ (aB (aB (bw (ac J3 (sr λ_ J17=>P2 ?_)))))));refine nx J17 (ai (WK [0,0] (aq rfl rfl ?_)));exact⟨by rw[show i*5=25 by omega],rfl⟩
theorem AA(n:Nat)(W:List (List (List UInt8)))(hsm: ∀k,k<25→k0 W k+(W.getD k []).length≤1000000000):DT 66 #[.pointer (some ⟨n,0,none⟩)] T0 [dP 156 208 5 n W] (RI (.int .i64 ((k0 W 25:Nat):Int)) [dP 156 208 5 n W]):=
 Leg.Does.pack (B:=[]) λbs=>Leg.Does.fold (yW n bs W hsm) λe H hp=>by
  cases e with
  |returned v=>
   obtain⟨rfl,rfl⟩:=hp;exact⟨[dP 156 208 5 n W],λ_ s=>bi (p:=λbs:List Nat=>[aj n (dr bs) 156,ey 208 5 bs W]) (H:=[]) bs s,rfl,rfl⟩
  |panicked c=>exact hp.elim
  |outgrown=>exact hp.elim
theorem Hk{T U:Nat}{bs:List Nat}{b:Nat}(h: ¬bs.length%6=0):n9 T U (bs++[b]) bs.length=gA T U b []:=by
 unfold n9;rw[if_neg h,List.getD_eq_getElem?_getD,List.getElem?_append_right (aP _),w9];rfl
theorem C9{T U:Nat}{bs:List Nat}{b:Nat}(hl: ¬bs.length%6=0){H:List HP}{h:Hl}(s:bH (gA T U b []::jS T U bs::H) h):bH (jS T U (bs++[b])::H) h:=tB T U bs b (by rw[Hk hl];exact s)
theorem Az:
 DT 53 #[] T0 [] (dw (λv H=>∃n,v= .pointer (some ⟨n,0,none⟩)∧H=[dP 156 208 5 n (List.replicate 25 [])])):=by
 refine Leg.Does.body (vs:=[]) (n:=26) Tryz.func53 rfl rfl rfl (λw0 F hF=>?_);refine sr λ_ J1=>?_
 refine oD ?_;refine nx J1 ?_;refine sr λ_ J2=>?_
 refine tp (jH (cells:=#[(.pointer none),(.pointer none),(.pointer none),(.pointer none),(.pointer none),(.pointer none),(.pointer none),(.pointer none),(.pointer none),(.pointer none),(.pointer none),(.pointer none),(.pointer none),(.pointer none),(.pointer none),(.pointer none),(.pointer none),(.pointer none),(.pointer none),(.pointer none),(.pointer none),(.pointer none),(.pointer none),(.pointer none),(.pointer none)]) rfl rfl (by as_aux_lemma=>kernel_rfl)) ?_;refine TL.box (ab rfl) rfl rfl rfl rfl (λb5=>?_);change TL _ _ _ _ _ _ _ _ _ [aj b5 [(.pointer none),(.pointer none),(.pointer none),(.pointer none),(.pointer none),(.pointer none),(.pointer none),(.pointer none),(.pointer none),(.pointer none),(.pointer none),(.pointer none),(.pointer none),(.pointer none),(.pointer none),(.pointer none),(.pointer none),(.pointer none),(.pointer none),(.pointer none),(.pointer none),(.pointer none),(.pointer none),(.pointer none),(.pointer none)] 156];refine oD ?_;refine nx J2 ?_;refine aa λ_ J3=>?_
 refine sr λ_ J4=>?_
 refine mv ?_;refine nx J4 ?_;refine ap ?_
 refine bB (α:=(Nat)×(List Nat)) (λ⟨i,bs⟩=>i≤5∧bs.length=i*5) (λ⟨i,bs⟩=>[(0,(.pointer none)),(1,(.pointer (some ⟨b5,0,none⟩))),(6,(.int .i64 (((i:Nat):Int))))]) (λ⟨i,bs⟩=>[aj b5 (kW (bs)) 156,jS 208 5 (bs)]) (λ⟨i,bs⟩=>5-i) (0,[])
  ⟨aN _,rfl⟩ (aS (aS (bC rfl (by congr 1) (JU _))))
  (λ_ s=>az [1,0] rfl (C6 208 5 s)) (λ⟨i,bs⟩ hinv=>?_)
 obtain⟨hi,hbs⟩:=hinv;refine sr λ_ J5=>?_
 refine tp (PV.lss rfl rfl rfl) ?_;refine am (λh7=>?_) (λh7=>?_);refine nx J5 ?_;refine aa λ_ J6=>?_
 refine mC rfl ?_;refine aQ ?_;refine ac J6 ?_;refine aa λ_ J7=>?_
 refine ap ?_;refine sr λ_ J8=>?_
 refine mv ?_;refine oD ?_;refine nx J8 ?_;refine sr λ_ J9=>?_
 refine mv ?_;refine nx J9 ?_;refine ap ?_
 refine bB (α:=(Nat)×(List Nat)) (λ⟨j,bs2⟩=>j≤5∧bs2.length=i*5+j) (λ⟨j,bs2⟩=>[(0,(.pointer none)),(1,(.pointer (some ⟨b5,0,none⟩))),(2,(.int .i64 (((i:Nat):Int)))),(6,(.int .i64 (((i:Nat):Int)))),(9,(.int .i64 (((j:Nat):Int))))]) (λ⟨j,bs2⟩=>[aj b5 (kW (bs2)) 156,jS 208 5 (bs2)]) (λ⟨j,bs2⟩=>5-j) (0,bs)
  ⟨aN _,hbs⟩ (aS (aS (aS (aS (bC rfl (by congr 1) (JU _))))))
  (λ_ s=>s) (λ⟨j,bs2⟩ hinv=>?_)
 obtain⟨hj,hbl⟩:=hinv;refine sr λ_ J10=>?_
 refine tp (PV.lss rfl rfl rfl) ?_;refine am (λh10=>?_) (λh10=>?_);refine nx J10 ?_;refine aa λ_ J11=>?_
 refine mC rfl ?_;refine aQ ?_;refine ac J11 ?_;refine aa λ_ J12=>?_
 refine ap ?_;refine sr λ_ J13=>?_
 refine mv ?_;refine oD ?_;refine nx J13 ?_;refine sr λ_ J14=>?_
 refine mv ?_;refine mv ?_;refine tp (PV.neq rfl rfl rfl) ?_;refine am (λh14=>?_) (λh14=>?_);refine nx J14 ?_;refine mC rfl ?_;refine qL (λw=>Frm F w∧True) dC rfl (λ_ s=>⟨e5 s,trivial⟩) ?_;refine ta 0 rfl (jt rfl rfl) ?_;refine ta 1 rfl (jt rfl rfl) ?_;refine ta 2 rfl (jt rfl rfl) ?_;refine ta 4 rfl (fN rfl rfl) ?_;refine ta 5 rfl (a9 (r:=0) rfl Tryz.underlying156 rfl Dl rfl rfl) ?_;refine ta 6 rfl (pC (r:=i*5) rfl Ix zO rfl rfl (by omega) (by omega) (by omega)) ?_;refine cJ [3] (by kernel_rfl) rfl ?_;refine aF rfl ?_ ?_;refine kl (A:=[]) (ab rfl) rfl rfl rfl Mo rfl (Bk) (λ_ s=>s) (λ_ _ _=>trivial) (λvR HR hR=>?_);obtain⟨bx,rfl,rfl⟩:=hR;change TL _ _ _ _ _ _ _ _ _ [gA 208 5 bx [],aj b5 (kW (bs2)) 156,jS 208 5 (bs2)];refine au ?_;refine tG (λ_ s=>⟨e5 s,trivial⟩) ?_;refine ta 7 rfl (pC (r:=i*5+j) rfl Hs Dm rfl rfl (by omega) (by omega) (by omega)) ?_;refine cJ [8] (by kernel_rfl) rfl ?_;refine aF rfl ?_ ?_;refine bT (i:=1) (H':=[gA 208 5 bx [],aj b5 (kW (bs2++[bx])) 156,jS 208 5 (bs2)]) (ab rfl) rfl rfl rfl rfl rfl Dm rfl rfl (by rw[xE];omega) (by rw[show i*5+j=bs2.length by omega];exact EY (by omega) (by omega)) rfl ?_;refine au ?_;refine tG (λ_ s=>⟨e5 s,trivial⟩) ?_;refine TD.done (by kernel_rfl) ?_;refine ag ?_;refine ac J12 ?_;refine af ?_;refine tp (cw rfl rfl rfl (bI (by omega) (by omega))) ?_;refine mv ?_;refine au ?_
 exact aJ ((j+1,bs2++[bx]):(Nat)×(List Nat)) ⟨by omega,by rw[ad,fW];omega⟩ (by show 5- (j+1)<5-j;omega)
  (aS (aS (aS (aS (bC rfl (by simp) (JU _))))))
  (λ_ s=>show bH [aj b5 (kW (bs2++[bx])) 156,jS 208 5 (bs2++[bx])] _ from az [1,0] rfl (C9 (by omega) (ak [0,1,0] rfl s)))
 exact bD;exact bD;refine nx J14 ?_;refine Ea rfl ?_;refine aQ ?_;refine ag ?_;refine ac J12 ?_;refine af ?_;refine tp (cw rfl rfl rfl (bI (by omega) (by omega))) ?_;refine mv ?_;refine au ?_
 exact aJ ((j+1,bs2++[0]):(Nat)×(List Nat)) ⟨by omega,by rw[ad,fW];omega⟩ (by show 5- (j+1)<5-j;omega)
  (aS (aS (aS (aS (bC rfl (by simp) (JU _))))))
  (λ_ s=>show bH [aj b5 (kW (bs2++[0])) 156,jS 208 5 (bs2++[0])] _ by rw[Cd (by omega)];exact az [1,0] rfl (Bj 208 5 bs2 (by omega) (az [1,0] rfl s)))
 refine nx J10 ?_;refine aa λ_ J15=>?_
 refine Ea rfl ?_;refine aZ ?_;refine aB ?_;refine aB ?_;refine bw ?_;refine ag ?_;refine ac J7 ?_;refine af ?_;refine tp (cw rfl rfl rfl (bI (by omega) (by omega))) ?_;refine mv ?_;refine au ?_
 exact aJ ((i+1,bs2):(Nat)×(List Nat)) ⟨by omega,by omega⟩ (by show 5- (i+1)<5-i;omega)
  (aS (aS (bC rfl (by simp) (JU _))))
  (λ_ s=>s)
 refine nx J5 ?_;refine aa λ_ J16=>?_
 refine Ea rfl ?_;refine aZ ?_;refine aB ?_;refine aB ?_;refine bw ?_;refine ac J3 ?_;refine sr λ_ J17=>?_
 refine mv ?_;refine oD ?_;refine nx J17 ?_;refine ai ?_;refine aE (H':=[dP 156 208 5 b5 (List.replicate 25 [])]) (dE _) (λ_ s=>bi (p:=λbs:List Nat=>[aj b5 (dr bs) 156,ey 208 5 bs (List.replicate 25 [])]) (H:=[]) bs (by rw[←EZ (by omega),←C8 (by omega)];exact s)) ?_;refine aq rfl rfl ?_;exact⟨b5,rfl,rfl⟩
end Go.Proofs.YtjblgopghhgflaaGreat
end

section
namespace Leg
open Go Codec Api
def eA(n:Nat)(D M P:Nat→Value):List Value:= .pointer (some ⟨n,0,none⟩)::((List.range 5).map D++((List.range 5).map M++(List.range 5).map P))
section
variable (n:Nat) (D M P:Nat→Value) {i:Nat}
theorem qF:(eA n D M P).length=16:=by simp[eA]
theorem zh:(eA n D M P)[0]?=some (.pointer (some ⟨n,0,none⟩)):=rfl
theorem C1(h:i<5):(eA n D M P)[1+i]?=some (D i):=by
 rw[lE,eA,List.getElem?_cons_succ,List.getElem?_append_left (by simpa using h)];simp[h]
theorem vT(h:i<5):(eA n D M P)[6+i]?=some (M i):=by
 rw[show 6+i=(5+i)+1 by omega,eA,List.getElem?_cons_succ,List.getElem?_append_right (by simp),List.getElem?_append_left (by simp;omega)];simp[h]
theorem Ly(h:i<5):(eA n D M P)[11+i]?=some (P i):=by
 rw[show 11+i=(10+i)+1 by omega,eA,List.getElem?_cons_succ,List.getElem?_append_right (by simp;omega),List.getElem?_append_right (by simp;omega)];simp only[bK,nC];rw[show 10+i-5-5=i by omega];simp[h]
end
def mF{α:Type}(f:Nat→α)(i:Nat)(v:α):Nat→α:=λj=>if j=i then v else f j
theorem kP{α:Type}(f:Nat→α)(i:Nat)(v:α):mF f i v i=v:=if_pos rfl
theorem oM{α:Type}(f:Nat→α){i j:Nat}(v:α)(h:j≠i):mF f i v j=f j:=if_neg h
theorem y2{α:Type}(f:Nat→α){i k:Nat}(h:i<k)(v:α):((List.range k).map f).set i v=(List.range k).map (mF f i v):=by
 refine List.ext_getElem? λj=>?_
 by_cases hj:j=i
 · subst hj
   rw[List.getElem?_set_self (by simpa using h)];simp[h,kP]
 · rw[List.getElem?_set_ne (λe=>hj e.symm)]
   by_cases hk:j<k
   · simp[hk,oM f v hj]
   · simp[hk]
section
variable (n:Nat) (D M P:Nat→Value) {i:Nat} (v:Value)
theorem Is(h:i<5):(eA n D M P).set (1+i) v=eA n (mF D i v) M P:=by
 rw[lE,eA,bN,pE _ _ (by simpa using h),y2 D h];rfl
theorem tY(h:i<5):(eA n D M P).set (6+i) v=eA n D (mF M i v) P:=by
 rw[show 6+i=(5+i)+1 by omega,eA,bN,fV _ _ (by simp),pE _ _ (by simp;omega)];simp only[bK,nC];rw[show 5+i-5=i by omega,y2 M h];rfl
theorem D6(h:i<5):(eA n D M P).set (11+i) v=eA n D M (mF P i v):=by
 rw[show 11+i=(10+i)+1 by omega,eA,bN,fV _ _ (by simp;omega),fV _ _ (by simp;omega)];simp only[bK,nC];rw[show 10+i-5-5=i by omega,y2 P h];rfl
end
abbrev Kp(c i:Nat):Value:= .agg #[.pointer (some ⟨c,0,none⟩), .int .i64 ((i:Nat):Int)]
end Leg
namespace Go.Proofs.YtjblgopghhgflaaGreat
open Go Leg Codec Api Dsk Wal
section
variable {CT NT BT U c n d i:Nat} {D M P:Nat→Value} {W:List (List (List UInt8))} {recs:List (List UInt8)} {l:List SaidT} {H:List HP} {h:Hl}
end
end Go.Proofs.YtjblgopghhgflaaGreat
end

section
namespace Api
open Go Leg Codec Dsk Wal
structure MS(δ:Type) where
 id:Int
 view:ViewT
 own:RowT
 mirror:MirT
 acc:AccT
 round:Int
 vote:Option VoteT
 book:BookT
 busy:Bool
 kept:Int
 waits:Int
 ops:Int
 replies:List ReplyT
 told:Vector Int 5
 last:Vector RowT 5
 e:δ
 o:List SaidT
structure Adr where
 lg:Nat
 vo:Value
 rs:Value
structure Dk(δ:Type) where
 pt:δ→List UInt8→δ×Int
 dn:δ→Bool
 ok:δ→Prop
 sure: ∀(e:δ) (bs:List UInt8),ok e→bs.length≤3000→ok (pt e bs).1
variable {δ:Type}
abbrev MS.rep(s:MS δ)(a:Adr):RepT:=⟨s.id, .pointer (some ⟨a.lg,0,none⟩),s.view,s.own,s.mirror,s.acc,s.round,a.vo,s.book,s.busy,s.kept,s.waits,s.ops,a.rs,s.told,s.last⟩
def MS.setView(s:MS δ)(v:ViewT):MS δ:= {s with view:=v}
def MS.setOwn(s:MS δ)(v:RowT):MS δ:= {s with own:=v}
def MS.setAcc(s:MS δ)(v:AccT):MS δ:= {s with acc:=v}
def MS.setRound(s:MS δ)(v:Int):MS δ:= {s with round:=v}
def MS.setBusy(s:MS δ)(v:Bool):MS δ:= {s with busy:=v}
def MS.setKept(s:MS δ)(v:Int):MS δ:= {s with kept:=v}
def MS.setWaits(s:MS δ)(v:Int):MS δ:= {s with waits:=v}
def MS.setOps(s:MS δ)(v:Int):MS δ:= {s with ops:=v}
def MS.setTold(s:MS δ)(v:Vector Int 5):MS δ:= {s with told:=v}
def MS.setLast(s:MS δ)(v:Vector RowT 5):MS δ:= {s with last:=v}
def Adr.nil:Adr:=⟨0, .pointer none, .slice none 0 0⟩
def cU(w:Int):Int:=IntKind.i64.wrap (1*2^min w.toNat IntKind.i64.bits)
def AH(a b:BallotT):Bool:=if a.round≠b.round then decide (a.round<b.round)else decide (a.who<b.who)
def yc(a:AccT)(ep:Int)(b:BallotT):Bool:=decide (ep≠a.epoch)||(decide (b.round<1)||AH b a.vow)
def bQ(a:AccT)(ep:Int)(b:BallotT):AccT×Bool:=if yc a ep b then(a,false)else({a with vow:=b},true)
def gh(a:AccT)(ep:Int)(b:BallotT)(c:ChangeT):AccT×Bool:=if yc a ep b then(a,false)else({a with vow:=b,had:=b,change:=c},true)
def kr(bits:Int)(k:Nat):List Int:=((List.range k).filter λi:Nat=>FH bits ((i:Nat):Int)).map λi:Nat=>((i:Nat):Int)
def BY(bits:Int):List Int:=kr bits 5
def I6(part all:Int):Bool:=decide (2* (((BY (rV .i64 part all)).length:Nat):Int)>(((BY all).length:Nat):Int))
def gp(v:ViewT)(bits:Int):Bool:=I6 bits v.members
def jc(v:ViewT)(b:BallotT)(c:ChangeT):VoteT:= {VoteT.zero with view:=v,ballot:=b,change:=c}
def mP(v:VoteT)(who:Int)(b:BallotT):Bool:=decide (b.flat=v.ballot.flat)&&iu v.view who
def uA(v:VoteT)(who:Int)(had:BallotT)(c:ChangeT):VoteT:=
 if decide (0<had.round)&&AH v.best had then {v with vowed:=ik .i64 v.vowed (cU who),best:=had,change:=c}else {v with vowed:=ik .i64 v.vowed (cU who)}
def eD(v:VoteT)(who:Int)(b had:BallotT)(c:ChangeT):VoteT×Bool:=
 if v.putting|| !mP v who b then(v,false)else({uA v who had c with putting:=gp v.view (ik .i64 v.vowed (cU who))},gp v.view (ik .i64 v.vowed (cU who)))
def gf(v:VoteT)(who:Int)(b:BallotT):VoteT×Bool:=
 if !v.putting|| !mP v who b then(v,false)else({v with took:=ik .i64 v.took (cU who)},gp v.view (ik .i64 v.took (cU who)))
def nO(x:RowT)(who v:Int)(l:Vector CellT 4):RowT:=if h:cH who=true then {x with heir:=x.heir.set who.toNat v (fb h),left:=x.left.set who.toNat l (fb h)}else x
def vD(x:RowT)(who:Int):Vector CellT 4:=if h:cH who=true then x.left[who.toNat]'(fb h)else RowT.zero.cells
def mK(who:Int)(dead:RowT)(x:RowT)(i:Nat):RowT:=if((i:Nat):Int)≠who∧0<fC dead ((i:Nat):Int)∧fC x ((i:Nat):Int)=0 then nO x ((i:Nat):Int) (fC dead ((i:Nat):Int)) (vD dead ((i:Nat):Int))else x
def nu(x:RowT)(who:Int)(dead:RowT)(k:Nat):RowT:=(List.range k).foldl (mK who dead) (nO x who (fZ (dead.version+1)) dead.cells)
def dK(x:RowT)(who:Int)(dead:RowT):RowT×Int:=
 if !cH who then(.zero,5)else if 0<fC x who then(.zero,8)else({nu x who dead 5 with version:=fZ ((nu x who dead 5).version+1)},0)
def qa(s:MS δ)(who:Int):Int:=if h:cH who=true then s.told[who.toNat]'(fb h)else 0
def mT(s:MS δ)(who:Int):RowT:=if h:cH who=true then s.last[who.toNat]'(fb h)else .zero
def Ad{α:Type}(v:Vector α 5)(w:Int)(x:α):Vector α 5:=if h:cH w=true then v.set w.toNat x (fb h)else v
def k8(s:MS δ)(who:Int)(y:RowT):MS δ:= {s with last:=if qa s who=0∨(mT s who).version<y.version then Ad s.last who y else s.last}
def uB(s:MS δ)(from' who:Int)(y:RowT):MS δ:= {k8 s who y with told:=Ad s.told who (ik .i64 (qa s who) (cU from'))}
def uC(s:MS δ)(who w:Int):Bool:=decide ((qa s who).fdiv (2^min w.toNat IntKind.i64.bits)%2=1)
def A2(s:MS δ)(i:Nat):Bool:=decide (la s.view ((i:Nat):Int)=some s.id)&&decide (fC s.own ((i:Nat):Int)≤0)
def gN(s:MS δ)(k:Nat):List Int:=((List.range k).filter (A2 s)).map λi:Nat=>((i:Nat):Int)
def bz(s:MS δ):List Int:=gN s 5
def tU(s:MS δ):Bool:=(bz s).all λi=>(gE i).all λw=>uC s i w
def pg(s:MS δ)(l:List Int):RowT:=l.foldl (λx i=>if 0<fC x i then x else(dK x i (mT s i)).1) s.own
def jK(v:ViewT):MsgT:= {MsgT.zero with kind:=7,view:=v}
def nP(i:Int)(v:ViewT):MsgT:= {MsgT.zero with kind:=8,whose:=i,view:=v}
def fk(ep:Int)(b:BallotT):MsgT:= {MsgT.zero with kind:=3,epoch:=ep,ballot:=b}
def kg(ep:Int)(b had:BallotT)(c:ChangeT):MsgT:= {MsgT.zero with kind:=4,epoch:=ep,ballot:=b,had:=had,change:=c}
def iI(ep:Int)(b:BallotT)(c:ChangeT):MsgT:= {MsgT.zero with kind:=5,epoch:=ep,ballot:=b,change:=c}
def jv(ep:Int)(b:BallotT):MsgT:= {MsgT.zero with kind:=6,epoch:=ep,ballot:=b}
def gI(ep:Int)(b:BallotT):RecT:= {RecT.zero with kind:=3,epoch:=ep,ballot:=b}
def lO(ep:Int)(b:BallotT)(c:ChangeT):RecT:= {RecT.zero with kind:=4,epoch:=ep,ballot:=b,change:=c}
def dd(s:MS δ)(n:Int):MS δ:= {s with round:=n}
def kO(s:MS δ)(v:VoteT):MS δ:= {s with vote:=some v}
def wh(s:MS δ)(a:AccT):MS δ:= {s with acc:=a}
variable (K:Dk δ)
def it(s:MS δ)(l:List SaidT):MS δ:= {s with o:=if K.dn s.e then s.o else s.o++l}
def B5(s:MS δ)(to':Int)(m:MsgT):MS δ:=it K s [⟨to',m⟩]
theorem oZ(s:MS δ):it K s []=s:=by
 unfold it;rw[aM,ite_self]
theorem Gc(s:MS δ)(a b:List SaidT):it K (it K s a) b=it K s (a++b):=by
 unfold it
 by_cases h:K.dn s.e=true<;>simp[h]
def mH(f:MS δ→MS δ)(s:MS δ)(to':Int)(m:MsgT):MS δ:=if to'=s.id then f s else B5 K s to' m
def dY(s:MS δ)(r:RecT):MS δ:= {s with e:=(K.pt s.e (jB r)).1}
def rz(s:MS δ)(r:RecT):Int:=(K.pt s.e (jB r)).2
def de(s:MS δ)(op err val:Int):MS δ:= {s with replies:=s.replies++[⟨op,err,val⟩]}
def fe(s:MS δ):MS δ:=it K s (oQ (s.rep .nil))
def ni(id:Int)(m:MsgT)(p:Nat→Bool)(k:Nat):List SaidT:=((List.range k).filter λi:Nat=> !decide (((i:Nat):Int)=id)&&p i).map λi:Nat=>⟨((i:Nat):Int),m⟩
theorem ie(id:Int)(m:MsgT)(p:Nat→Bool)(k:Nat):ni id m p (k+1)=ni id m p k++(if((k:Nat):Int)≠id∧p k=true then [⟨((k:Nat):Int),m⟩]else []):=by
 unfold ni;rw[cS,List.filter_append,co]
 by_cases h:((k:Nat):Int)=id<;>by_cases h2:p k=true<;>simp[h,h2]
def lZ(s:MS δ)(y:RowT):MS δ:=it K s (ni s.id (rC s.id y) (λ_=>true) 5)
def m7(s:MS δ)(v:ViewT):MS δ:=it K s (ni s.id (jK v) (λ_=>true) 5)
def tt(s:MS δ)(x:RowT)(op:Int):MS δ:= {s with own:=x,busy:=true,kept:=0,waits:=op}
def eF(s:MS δ)(x:RowT)(op:Int):MS δ×Int:=if rz K s (kc x)≠0 then(dY K s (kc x),rz K s (kc x))else(fe K (tt (dY K s (kc x)) x op),0)
def mq(s:MS δ):MS δ:=if s.busy||decide ((bz s).length=0)then s else if tU s then(eF K s (pg s (bz s)) 0).1 else s
def gy(s:MS δ):MS δ:= {s with busy:=false,book:=(fB s.book s.id s.own).1}
def lH(s:MS δ):MS δ:= {s with replies:=if 0<s.waits then s.replies++[⟨s.waits,0,0⟩]else s.replies,waits:=if 0<s.waits then 0 else s.waits}
theorem xg{s:MS δ}(h:0<s.waits):lH s= {de s s.waits 0 0 with waits:=0}:=by unfold lH;rw[if_pos h,if_pos h];rfl
theorem xh{s:MS δ}(h: ¬0<s.waits):lH s=s:=by unfold lH;rw[if_neg h,if_neg h]
def ld(s:MS δ):MS δ:=mq K (lZ K (lH (gy s)) s.own)
def kD(s:MS δ)(from' ver:Int):Bool:=s.busy&&(decide (ver=s.own.version)&&decide (from'∈gE s.id))
def vI(s:MS δ):Bool:=(gE s.id).all λw=> !zq s.kept w
def iq(s:MS δ)(from':Int):MS δ:= {s with kept:=ik .i64 s.kept (cU from')}
def dH(s:MS δ)(from':Int)(m:MsgT):MS δ:=if kD s from' m.version then(if vI (iq s from')then ld K (iq s from')else iq s from')else s
def D7(s:MS δ)(w:Int)(y:RowT):MS δ:= {s with book:=(fB s.book w y).1}
def io(s:MS δ)(w:Int)(y:RowT):MS δ:= {s with mirror:=(lT s.mirror w y).1}
def iD(s:MS δ)(from':Int)(m:MsgT):MS δ:=
 if m.whose≠from'∨fP s.mirror m.whose=true then s
 else if kY s.mirror m.whose m.row then(if rz K s (jR m.whose m.row)≠0 then dY K s (jR m.whose m.row)else B5 K (io (dY K s (jR m.whose m.row)) m.whose m.row) from' (rH (ec (io (dY K s (jR m.whose m.row)) m.whose m.row).mirror m.whose).version))
 else B5 K s from' (rH (ec s.mirror m.whose).version)
def fM(s:MS δ)(from':Int)(m:MsgT):MS δ:=mq K (if from'∈gE m.whose then uB s from' m.whose m.row else s)
def ly(s:MS δ)(w:Int):MS δ:= {s with mirror:=nr s.mirror w}
def fj(s:MS δ)(from' w:Int):MS δ:=
 let back:=λs:MS δ=>mH K (λs=>fM K s s.id (gJ w (ec s.mirror w))) s from' (gJ w (ec s.mirror w))
 if la s.view w≠some from' then s
 else if fP s.mirror w then back s
 else if rz K s (iX w)≠0 then dY K s (iX w)else back (ly (dY K s (iX w)) w)
def gQ(s:MS δ)(i w:Int):MS δ:=if uC s i w then s else mH K (λs=>fj K s s.id i) s w (nP i s.view)
def pp(s:MS δ)(i:Int):MS δ:=gQ K (gQ K s i ((i+1)%5)) i ((i+2)%5)
def fL(l:List Int)(s:MS δ):MS δ:=l.foldl (pp K) s
def qE(s:MS δ):MS δ:=fL K (bz s) s
def mo(s:MS δ)(v:ViewT):MS δ:= {s with view:=v,acc:= {AccT.zero with epoch:=v.epoch},vote:=none,round:=0}
def pL(s:MS δ)(v:ViewT):Bool:=decide (s.view.epoch<v.epoch)&&decide (rz K s (kG v)=0)
def gW(s:MS δ)(v:ViewT):MS δ:=if v.epoch≤s.view.epoch then s else if rz K s (kG v)≠0 then dY K s (kG v)else qE K (mo (dY K s (kG v)) v)
def l3(s:MS δ)(from':Int)(m:MsgT):MS δ:=fj K (gW K s m.view) from' m.whose
def kM(s:MS δ)(c:ChangeT):MS δ:=if(dB s.view c).2≠0 then s else if pL K s (dB s.view c).1 then m7 K (gW K s (dB s.view c).1) (dB s.view c).1 else gW K s (dB s.view c).1
def eE(f:MS δ→MS δ)(s:MS δ)(from':Int)(m:MsgT):MS δ:=
 if m.epoch<s.view.epoch then(if m.kind=3∨m.kind=5 then B5 K s from' (jK s.view)else s)
 else if s.view.epoch<m.epoch∨iu s.view s.id=false then s
 else f (dd s (max s.round m.ballot.round))
def kQ(from':Int)(m:MsgT)(s:MS δ):MS δ:=match s.vote with
 |none=>s
 |some vt=>if(gf vt from' m.ballot).2 then kM K (kO s (gf vt from' m.ballot).1) vt.change else(kO s (gf vt from' m.ballot).1)
def qe(s:MS δ)(from':Int)(m:MsgT):MS δ:=eE K (kQ K from' m) s from' m
def nf(from':Int)(m:MsgT)(s:MS δ):MS δ:=mH K (λs=>qe K s s.id (jv m.epoch m.ballot)) s from' (jv m.epoch m.ballot)
def oi(from':Int)(m:MsgT)(s:MS δ):MS δ:=
 if(dB s.view m.change).2≠0 then s else if(gh s.acc m.epoch m.ballot m.change).2=false then s
 else if(gh s.acc m.epoch m.ballot m.change).1.flat≠s.acc.flat then(if rz K s (lO m.epoch m.ballot m.change)≠0 then dY K s (lO m.epoch m.ballot m.change)else nf K from' m (wh (dY K s (lO m.epoch m.ballot m.change)) (gh s.acc m.epoch m.ballot m.change).1))
 else nf K from' m s
def st(s:MS δ)(from':Int)(m:MsgT):MS δ:=eE K (oi K from' m) s from' m
def jr(s:MS δ)(m:MsgT):MS δ:=it K s (ni s.id m (λi=>iu s.view ((i:Nat):Int)) 5)
def jx(f:MS δ→MsgT→MS δ)(s:MS δ)(m:MsgT):MS δ:=if iu s.view s.id then f (jr K s m) m else jr K s m
def kh(s:MS δ)(vt:VoteT):MS δ:=jx K (λs m=>st K s s.id m) s (iI s.view.epoch vt.ballot vt.change)
def oL(from':Int)(m:MsgT)(s:MS δ):MS δ:=match s.vote with
 |none=>s
 |some vt=>if(eD vt from' m.ballot m.had m.change).2 then kh K (kO s (eD vt from' m.ballot m.had m.change).1) (eD vt from' m.ballot m.had m.change).1 else(kO s (eD vt from' m.ballot m.had m.change).1)
def qg(s:MS δ)(from':Int)(m:MsgT):MS δ:=eE K (oL K from' m) s from' m
def nA(from':Int)(m:MsgT)(a:AccT)(s:MS δ):MS δ:=mH K (λs=>qg K s s.id (kg m.epoch m.ballot a.had a.change)) s from' (kg m.epoch m.ballot a.had a.change)
def pw(from':Int)(m:MsgT)(s:MS δ):MS δ:=
 if(bQ s.acc m.epoch m.ballot).2=false then s
 else if(bQ s.acc m.epoch m.ballot).1.vow.flat≠s.acc.vow.flat then(if rz K s (gI m.epoch m.ballot)≠0 then dY K s (gI m.epoch m.ballot)else nA K from' m (bQ s.acc m.epoch m.ballot).1 (wh (dY K s (gI m.epoch m.ballot)) (bQ s.acc m.epoch m.ballot).1))
 else nA K from' m (bQ s.acc m.epoch m.ballot).1 s
def su(s:MS δ)(from':Int)(m:MsgT):MS δ:=eE K (pw K from' m) s from' m
def mi(s:MS δ)(vt:VoteT):MS δ:=jx K (λs m=>su K s s.id m) s (fk s.view.epoch vt.ballot)
def nh(s:MS δ)(vt:VoteT):MS δ:=if vt.putting then kh K s vt else mi K s vt
def en(s:MS δ):BallotT:=⟨fZ (s.round+1),s.id⟩
def qH(s:MS δ)(c:ChangeT):MS δ:=kO (dd (wh (dY K s (gI s.view.epoch (en s))) (bQ s.acc s.view.epoch (en s)).1) (en s).round) (jc s.view (en s) c)
def cn(s:MS δ)(c:ChangeT):MS δ×Int:=
 if(bQ s.acc s.view.epoch (en s)).2=false then(s,6)else if rz K s (gI s.view.epoch (en s))≠0 then(dY K s (gI s.view.epoch (en s)),rz K s (gI s.view.epoch (en s)))else(qH K s c,0)
def fm(s:MS δ)(c:ChangeT):Int:=if(dB s.view c).2=0∧s.vote.isSome=true then 8 else(dB s.view c).2
def dN(s:MS δ)(op:Int)(c:ChangeT):MS δ×Int:=
 if fm s c≠0 then(de s op (fm s c) 0,fm s c)
 else if(cn K s c).2≠0 then(de (cn K s c).1 op (cn K s c).2 0,(cn K s c).2)
 else(nh K (de (cn K s c).1 op 0 0) (jc s.view (en s) c),0)
def cZ(s:MS δ)(o:OpT):RowT×Int×Int:=im (s.rep .nil) o
def br(s:MS δ):MS δ:= {s with ops:=fZ (s.ops+1)}
def mZ(s:MS δ)(o:OpT):MS δ×Int:=
 if(cZ s o).2.2≠0∨o.kind=3 then(de s s.ops (cZ s o).2.2 (cZ s o).2.1,(cZ s o).2.2)
 else if(eF K s (cZ s o).1 s.ops).2≠0 then(de (eF K s (cZ s o).1 s.ops).1 s.ops (eF K s (cZ s o).1 s.ops).2 0,(eF K s (cZ s o).1 s.ops).2)
 else((eF K s (cZ s o).1 s.ops).1,0)
def bP(s:MS δ)(o:OpT):MS δ×Int:=if iu s.view s.id&&decide (o.kind=4)then dN K (br s) (br s).ops o.change else mZ K (br s) o
def fu(s:MS δ)(from':Int)(m:MsgT):MS δ:=
 if m.kind=0 then iD K s from' m else if m.kind=1 then dH K s from' m else if m.kind=2 then D7 s m.whose m.row
 else if m.kind=7 then gW K s m.view else if m.kind=8 then l3 K s from' m else if m.kind=9 then fM K s from' m
 else if m.kind=3 then su K s from' m else if m.kind=4 then qg K s from' m else if m.kind=5 then st K s from' m else if m.kind=6 then qe K s from' m else s
def bS(s:MS δ):MS δ:=qE K (mq K (if s.busy=true then fe K s else s))
def cb(s:MS δ):MS δ:=if 1<s.view.epoch then m7 K s s.view else s
def fQ(s:MS δ):MS δ:=if 0< (cy s.book s.id).version then lZ K s (cy s.book s.id)else s
def rf(s:MS δ):MS δ:=match s.vote with
 |none=>s
 |some vt=>if(dB s.view vt.change).2=0 then(if(cn K s vt.change).2=0 then nh K (cn K s vt.change).1 (jc s.view (en s) vt.change)else(cn K s vt.change).1)else s
def hO(s:MS δ):MS δ:=if iu (cb K (bS K s)).view (cb K (bS K s)).id then rf K (fQ K (cb K (bS K s)))else cb K (bS K s)
def jm(s:MS δ)(m:RecT):MS δ:=
 if m.kind=0 then {s with own:=m.row,busy:=true,kept:=0}
 else if m.kind=1 then io s m.whose m.row
 else if m.kind=2 then ly s m.whose
 else if m.kind=3 then {s with acc:= {s.acc with vow:=m.ballot},round:=max s.round m.ballot.round}
 else if m.kind=4 then {s with acc:= {s.acc with vow:=m.ballot,had:=m.ballot,change:=m.change},round:=max s.round m.ballot.round}
 else if m.kind=5 then mo s m.view
 else s
def kU:List (List UInt8)→MS δ→Option (MS δ)
 | [],s=>some s
 |b::bs,s=>if(mV b).2≠0 then none else kU bs (jm s (mV b).1)
def De(id:Int)(e:δ):MS δ:=⟨id, .zero, .zero, .zero, .zero,0,none, .zero,false,0,0,0,[], #v[0,0,0,0,0], #v[RowT.zero,RowT.zero,RowT.zero,RowT.zero,RowT.zero],e,[]⟩
def Ay(id:Int)(e:δ):MS δ:=mo (De id e) firstV
theorem EQ{ls:List (List UInt8)}{k:Nat}{s:MS δ}(h:k<ls.length)(g:(mV ls[k]).2≠0):kU (ls.drop k) s=none:=by
 rw[di h,kU,if_pos g]
theorem Gm{ls:List (List UInt8)}{k:Nat}{s:MS δ}(h:k<ls.length)(g: ¬(mV ls[k]).2≠0):kU (ls.drop k) s=kU (ls.drop (k+1)) (jm s (mV ls[k]).1):=by
 rw[di h,kU,if_neg g]
end Api
end

section
namespace Api
open Go Leg Codec Dsk Wal
theorem A1(m:RecT):(jB m).length≤3000:=by
 have h1:=gY m.row;have h2:=aT m.ballot.flat;have h4:=aT m.change.flat;have h5:=aT m.view.flat;have h6:=aT [m.kind,m.whose];have h8:=aT [m.kind,m.epoch];have h9:=aT [m.kind];simp only[BallotT.flat,ChangeT.flat,ViewT.flat,ax,aA,ay]at h2 h4 h5 h6 h8 h9;unfold jB
 repeat' split
 all_goals first|omega| (simp only[ad,BallotT.flat,ChangeT.flat,ViewT.flat,aA];omega)
abbrev qQ(n:Int):Prop:= -9223372036854775808≤n∧n<9223372036854775808
theorem mD{n:Int}(h:qQ n):(Lit.int .i64 n).wf=true:=by
 have m1:IntKind.i64.min= -9223372036854775808:=by decide
 have m2:IntKind.i64.max=9223372036854775807:=by decide
 simp only[Lit.wf,m1,m2,av,decide_eq_true_eq];omega
theorem kF(n:Int):qQ (fZ n):=by
 unfold fZ qQ;simp only[IntKind.wrap,IntKind.bits,IntKind.signed];simp;omega
structure CW(c:CellT):Prop where
 inn:qQ c.inn
 out:qQ c.out
 given: ∀(j:Nat) (h:j<5),qQ c.given[j]
class OkRow(y:RowT):Prop where
 version:qQ y.version
 cells: ∀(k:Nat) (h:k<4),CW y.cells[k]
 heir: ∀(i:Nat) (h:i<5),qQ y.heir[i]
 left: ∀(i k:Nat) (h:i<5) (g:k<4),CW y.left[i][k]
theorem q8{α:Type}{n:Nat}{v:Vector α n}{x:α}(h:x∈v.toList): ∃(j:Nat) (h:j<n),x=v[j]:=by
 obtain⟨j,hj,rfl⟩:=e4 h;rw[ay]at hj;exact⟨j,hj,by simp⟩
theorem DO{α:Type}{n:Nat}(v:Vector α n)(j:Nat)(h:j<n):v[j]∈v.toList:=by simp
theorem xf{m:Nat}{v:Vector CellT m}(h: ∀(k:Nat) (h:k<m),CW v[k]):WF (bM v.toList):=λn hn=>by
 obtain⟨c,hc,hn⟩:=jI.1 hn;obtain⟨k,hk,rfl⟩:=q8 hc;simp only[CellT.flat,ci]at hn;rcases hn with rfl|rfl|hn
 · exact mD (h k hk).inn
 · exact mD (h k hk).out
 · obtain⟨j,hj,rfl⟩:=q8 hn
   exact mD ((h k hk).given j hj)
theorem OkRow.wf{x:RowT}(h:OkRow x):WF x.flat:=λn hn=>by
 simp only[RowT.flat,ci,cx]at hn;rcases hn with rfl|hn|hn|hn
 · exact mD h.version
 · exact xf h.cells n hn
 · obtain⟨j,hj,rfl⟩:=q8 hn
   exact mD (h.heir j hj)
 · obtain⟨v,hv,hn⟩:=jI.1 hn
   obtain⟨j,hj,rfl⟩:=q8 hv;exact xf (λk hk=>h.left j k hj hk) n hn
abbrev LK:= @OkRow.wf
theorem CW.of{m:Nat}{v:Vector CellT m}(h:WF (bM v.toList))(k:Nat)(hk:k<m):CW v[k]:=by
 have q: ∀n∈v[k].flat,qQ n:=λn hn=>zE (h n (jI.2 ⟨_,DO v k hk,hn⟩))
 exact⟨q _ (by simp[CellT.flat]),q _ (by simp[CellT.flat]),λj hj=>q _ (by simp[CellT.flat])⟩
theorem OkRow.of{x:RowT}(h:WF x.flat):OkRow x:=
 ⟨zE (h _ (by simp[RowT.flat])),CW.of λn hn=>h n (by simp[RowT.flat,hn]),λi hi=>zE (h _ (by simp[RowT.flat])),
  λi k hi hk=>CW.of (λn hn=>h n (by simp only[RowT.flat,ci,cx,jI];exact .inr (.inr (.inr ⟨_,DO x.left i hi,hn⟩)))) k hk⟩
class OkVw(v:ViewT):Prop where
 rng:Rng v
 wf:WF v.flat
class OkVt(v:VoteT):Prop where
 view:OkVw v.view
 ballot:WF v.ballot.flat
 change:WF v.change.flat
 best:WF v.best.flat
class OkMg(m:MsgT):Prop where
 row:OkRow m.row
 view:OkVw m.view
 ballot:WF m.ballot.flat
 had:WF m.had.flat
 change:WF m.change.flat
variable {δ:Type}
class OkR(K:outParam (Dk δ))(s:MS δ):Prop where
 e:K.ok s.e
 id:cH s.id=true
 view:OkVw s.view
 own:OkRow s.own
 mir: ∀(i:Nat) (h:i<5),OkRow s.mirror.rows[i]
 book: ∀(i:Nat) (h:i<5),OkRow s.book.rows[i]
 last: ∀(i:Nat) (h:i<5),OkRow s.last[i]
 acc:WF s.acc.flat
 vote: ∀vt,s.vote=some vt→OkVt vt
variable {K:Dk δ}
instance OkRow.zero:OkRow RowT.zero:=OkRow.of tame_rzero.wf
theorem CW.zero:CW .zero:=⟨by decide,by decide,λj hj=>by
 match j,hj with
 |0,_|1,_|2,_|3,_|4,_=>exact⟨(by decide:(-9223372036854775808:Int)≤0),(by decide:(0:Int)<9223372036854775808)⟩⟩
instance {s:MS δ}[h:OkR K s]:OkRow s.own:=h.own
instance {s:MS δ}[h:OkR K s]:OkVw s.view:=h.view
instance {m:MsgT}[h:OkMg m]:OkRow m.row:=h.row
instance {m:MsgT}[h:OkMg m]:OkVw m.view:=h.view
theorem nI{α:Type}{n:Nat}{p:α→Prop}{v:Vector α n}{i:Nat}(hi:i<n){x:α}(h: ∀(j:Nat) (hj:j<n),p v[j])(hx:p x)(j:Nat)(hj:j<n):p (v.set i x hi)[j]:=by
 rw[Vector.getElem_set];split
 · exact hx
 · exact h j hj
instance {s:MS δ}[h:OkR K s](w:Int):OkRow (ec s.mirror w):=by unfold ec;split;exact h.mir _ _;exact .zero
instance {s:MS δ}[h:OkR K s](w:Int):OkRow (cy s.book w):=by unfold cy;split;exact h.book _ _;exact .zero
instance {s:MS δ}[h:OkR K s](w:Int):OkRow (mT s w):=by unfold mT;split;exact h.last _ _;exact .zero
theorem sQ{x:RowT}[h:OkRow x](key:Int):CW (dD x key):=by unfold dD;split;exact h.cells _ _;exact .zero
theorem Ft{x:RowT}[h:OkRow x](i:Int):qQ (fC x i):=by unfold fC;split;exact h.heir _ _;exact⟨by decide,by decide⟩
theorem Fk{x:RowT}[h:OkRow x](i:Int)(k:Nat)(hk:k<4):CW (vD x i)[k]:=by unfold vD;split;exact h.left _ _ _ _;exact OkRow.zero.cells k hk
theorem vq{x:RowT}[h:OkRow x]{key n counts:Int}{c:CellT}(hc:CW c):OkRow (ki x key n counts c).1:=by
 unfold ki;split
 · exact .zero
 · refine⟨kF _,λk hk=>?_,λi hi=>?_,λi k hi hk=>?_⟩
   · show CW (kJ x key c).cells[k]
     unfold kJ;split
     · exact nI (p:=CW) (y3 (by assumption)) h.cells hc k hk
     · exact h.cells k hk
   · show qQ (kJ x key c).heir[i]
     unfold kJ;split<;>exact h.heir i hi
   · show CW (kJ x key c).left[i][k]
     unfold kJ;split<;>exact h.left i k hi hk
instance {x:RowT}[OkRow x](key n:Int):OkRow (nQ x key n).1:=by
 unfold nQ;split
 · have:=sQ (x:=x) key
   exact vq ⟨kF _,this.out,this.given⟩
 · exact .zero
instance {x:RowT}[OkRow x](key n:Int):OkRow (nR x key n).1:=by
 unfold nR;split
 · have:=sQ (x:=x) key
   exact vq ⟨this.inn,kF _,this.given⟩
 · exact .zero
instance {x:RowT}[OkRow x](key n to':Int):OkRow (kI x key n to').1:=by
 unfold kI;split
 · have:=sQ (x:=x) key
   refine vq ?_;unfold vH;split
   · exact⟨this.inn,this.out,nI (p:=qQ) (fb (by assumption)) this.given (kF _)⟩
   · exact this
 · exact .zero
theorem uP{x:RowT}(h:OkRow x){w v:Int}{l:Vector CellT 4}(hv:qQ v)(hl: ∀(k:Nat) (h:k<4),CW l[k]):OkRow (nO x w v l):=by
 unfold nO;split
 · exact⟨h.version,h.cells,nI (p:=qQ) (fb (by assumption)) h.heir hv,λi k hi hk=>nI (p:=λu:Vector CellT 4=>CW u[k]) (fb (by assumption)) (λj hj=>h.left j k hj hk) (hl k hk) i hi⟩
 · exact h
instance {x d:RowT}[h:OkRow x][g:OkRow d](who:Int):OkRow (dK x who d).1:=by
 have q: ∀k,OkRow (nu x who d k):=λk=>by
  induction k with
  |zero=>exact uP h (kF _) g.cells
  |succ k ih=>
   have e:nu x who d (k+1)=mK who d (nu x who d k) k:=by unfold nu;rw[cS,dU];rfl
   rw[e];unfold mK;split
   · exact uP ih (Ft _) (Fk _)
   · exact ih
 unfold dK;split
 · exact .zero
 split
 · exact .zero
 · exact⟨kF _,(q 5).cells,(q 5).heir,(q 5).left⟩
instance {s:MS δ}[h:OkR K s](l:List Int):OkRow (pg s l):=by
 have: ∀(l:List Int) (x:RowT),OkRow x→OkRow (l.foldl (λx i=>if 0<fC x i then x else(dK x i (mT s i)).1) x):=λl=>by
  induction l with
  |nil=>exact λx hx=>hx
  |cons i l ih=>exact λx hx=>ih _ (by dsimp only;split;exact hx;exact inferInstance)
 exact this l _ h.own
instance {s:MS δ}[h:OkR K s](o:OpT):OkRow (cZ s o).1:=by
 have:OkRow (gg (s.rep .nil) o).1:=by
  unfold gg
  repeat' split
  all_goals first|exact .zero|exact inferInstanceAs (OkRow (nQ s.own _ _).1)|exact inferInstanceAs (OkRow (nR s.own _ _).1)|exact inferInstanceAs (OkRow (kI s.own _ _ _).1)
 unfold cZ im
 repeat' split
 all_goals first|exact .zero|exact this
theorem vF{l:List Int}{k:Nat}(h:k<l.length):(ints l)[k]?=some (.int .i64 (l.getD k 0)):=by simp[ints,h,List.getD_eq_getElem?_getD]
theorem n6(s:MS δ)(k:Nat):gN s (k+1)=gN s k++(if A2 s k then [((k:Nat):Int)]else []):=by
 unfold gN;rw[cS,List.filter_append,co]
 by_cases h:A2 s k=true<;>simp[h]
theorem uO(b:Int)(k:Nat):kr b (k+1)=kr b k++(if FH b ((k:Nat):Int)then [((k:Nat):Int)]else []):=by
 unfold kr;rw[cS,List.filter_append,co]
 by_cases h:FH b ((k:Nat):Int)=true<;>simp[h]
theorem sx(b:Int)(k:Nat):(kr b k).length≤k:=by
 unfold kr;rw[bK];exact xa (zv _ _) (by simp)
theorem sJ{v:ViewT}{w i:Int}(h:(la v w).isSome=true)(g:(la v w).getD 0=i):la v w=some i:=by
 cases q:la v w with
 |none=>rw[q]at h;cases h
 |some z=>rw[q]at g;rw[←g];rfl
theorem y9{s:MS δ}{k:Nat}(h:A2 s k=true):la s.view ((k:Nat):Int)=some s.id∧fC s.own ((k:Nat):Int)≤0:=by
 unfold A2 at h;rw[av,decide_eq_true_iff,decide_eq_true_iff]at h;exact h
theorem JG{s:MS δ}{k:Nat}(h1:(la s.view ((k:Nat):Int)).isSome=true)(h2:(la s.view ((k:Nat):Int)).getD 0=s.id)(h3:fC s.own ((k:Nat):Int)≤0):A2 s k=true:=by
 unfold A2;rw[av,decide_eq_true_iff,decide_eq_true_iff];refine⟨?_,h3⟩;cases q:la s.view ((k:Nat):Int)with
 |none=>rw[q]at h1;cases h1
 |some z=>rw[q]at h2;rw[←h2];rfl
theorem Fz(s:MS δ)(k:Nat):(gN s k).length≤k:=by
 unfold gN;rw[bK];exact xa (zv _ _) (by simp)
theorem JB{x d:RowT}{who:Int}(h:cH who=true)(h2: ¬0<fC x who):(dK x who d).2=0:=by
 rw[dK,h,if_neg (by decide),if_neg h2]
theorem Bf(K:Dk δ){l:List Int}{q:Nat}(h:q<l.length)(s:MS δ):fL K (l.take (q+1)) s=pp K (fL K (l.take q) s) (l.getD q 0):=by
 unfold fL;rw[bW h,dU,List.getD_eq_getElem?_getD,List.getElem?_eq_getElem h];rfl
theorem tr(s:MS δ){l:List Int}{q:Nat}(h:q<l.length):pg s (l.take (q+1))=(if 0<fC (pg s (l.take q)) (l.getD q 0)then pg s (l.take q)else(dK (pg s (l.take q)) (l.getD q 0) (mT s (l.getD q 0))).1):=by
 unfold pg;rw[bW h,dU,List.getD_eq_getElem?_getD,List.getElem?_eq_getElem h];rfl
theorem vQ{s:MS δ}{i:Int}(h:i∈bz s):cH i=true∧la s.view i=some s.id∧fC s.own i≤0:=by
 unfold bz gN at h;rw[eH]at h;obtain⟨k,hk,rfl⟩:=h;rw[List.mem_filter,eN]at hk;have h2:=hk.2;unfold A2 at h2;rw[av,decide_eq_true_iff,decide_eq_true_iff]at h2;exact⟨decide_eq_true ⟨by omega,by omega⟩,h2.1,h2.2⟩
theorem gj(x:RowT){k:Nat}(h:k<5):fC x ((k:Nat):Int)=x.heir[k]:=by
 rw[fC,dif_pos (show cH ((k:Nat):Int)=true from decide_eq_true ⟨by omega,by omega⟩)];rfl
theorem FR(w:Int):(gE w).length≤1000000:=by unfold gE;split<;>simp
theorem DP{k:Nat}(h:k<5):cH ((k:Nat):Int)=true:=decide_eq_true ⟨by omega,by omega⟩
theorem Fl(x:RowT){k:Nat}(h:k<5):vD x ((k:Nat):Int)=x.left[k]:=by
 rw[vD,dif_pos (DP h)];rfl
theorem BZ(x:RowT){k:Nat}(h:k<5)(v:Int)(l:Vector CellT 4):nO x ((k:Nat):Int) v l= {x with heir:=x.heir.set k v h,left:=x.left.set k l h}:=by
 rw[nO,dif_pos (DP h)];rfl
theorem n0(x:RowT)(who:Int)(dead:RowT)(k:Nat):nu x who dead (k+1)=mK who dead (nu x who dead k) k:=by unfold nu;rw[cS,dU];rfl
instance OkVw.first:OkVw firstV:=⟨Rng.first,λn hn=>by
 have h:n∈[(1:Int),7,0,0,0,0,0]:=hn;simp only[ci,List.not_mem_nil,or_false,or_self]at h
 rcases h with rfl|rfl|rfl<;>decide⟩
instance OkVw.zero:OkVw ViewT.zero:=⟨Rng.zero,λn hn=>by
 have h:n∈[(0:Int),0,0,0,0,0,0]:=hn;simp only[ci,List.not_mem_nil,or_false,or_self]at h
 rcases h with rfl;decide⟩
theorem BI{v:ViewT}(h1:qQ v.epoch)(h2:qQ v.members)(hr:Rng v):WF v.flat:=λn hn=>by
 simp only[ViewT.flat,ci]at hn;rcases hn with rfl|rfl|hn
 · exact mD h1
 · exact mD h2
 · obtain⟨j,hj,rfl⟩:=q8 hn
   have:=hr j hj;exact mD ⟨by omega,by omega⟩
theorem qV(n:Int):qQ (IntKind.i64.wrap n):=kF n
instance OkVw.next{v:ViewT}[h:OkVw v](c:ChangeT):OkVw (dB v c).1:=by
 unfold dB;split
 · exact .zero
 split
 · split
   · exact .zero
   · exact⟨h.rng,BI (qV _) (qV _) h.rng⟩
 split
 · split
   · exact .zero
   · have hr:Rng ⟨IntKind.i64.wrap (v.epoch+1),lX .i64 v.members (2^c.who.toNat),qz v c⟩:=λi hi=>by
      show 0≤(qz v c)[i]∧(qz v c)[i]≤5;unfold qz;rw[Vector.getElem_mapIdx];unfold sG;split
      · have hm:cH c.heir=true:=by
         rename_i q _ _ _ _;simp only[JN,Bool.not_eq_true',not_or,Bool.not_eq_false]at q;exact q.2
        have hm2:0≤c.heir∧c.heir<5:=of_decide_eq_true hm;omega
      · exact h.rng i hi
     exact⟨hr,BI (qV _) (qV _) hr⟩
 · exact .zero
theorem Hp{b:BallotT}(h1:qQ b.round)(h2:qQ b.who):WF b.flat:=λn hn=>by
 have h:n∈[b.round,b.who]:=hn;simp only[ci,List.not_mem_nil,or_false]at h;rcases h with rfl|rfl
 · exact mD h1
 · exact mD h2
theorem gC:WF BallotT.zero.flat:=Hp (by decide) (by decide)
theorem ow:WF ChangeT.zero.flat:=λn hn=>by
 have h:n∈[(0:Int),0,0]:=hn;simp only[ci,List.not_mem_nil,or_false,or_self]at h;rcases h with rfl;decide
instance OkMg.sealed(w:Int)(y:RowT)[h:OkRow y]:OkMg (gJ w y):=⟨h, .zero,gC,gC,ow⟩
instance OkMg.sealW(w:Int)(v:ViewT)[h:OkVw v]:OkMg (nP w v):=⟨.zero,h,gC,gC,ow⟩
section
variable {s:MS δ}
instance [h:OkR K s](l:List SaidT):OkR K (it K s l):=⟨h.e,h.id,h.view,h.own,h.mir,h.book,h.last,h.acc,h.vote⟩
instance {p:Prop}[Decidable p]{a b:MS δ}[ha:OkR K a][hb:OkR K b]:OkR K (if p then a else b):=by split;exact ha;exact hb
instance {f:MS δ→MS δ}{t:Int}{m:MsgT}[h:OkR K s][hf:OkR K (f s)]:OkR K (mH K f s t m):=by
 unfold mH;split
 · exact hf
 · exact⟨h.e,h.id,h.view,h.own,h.mir,h.book,h.last,h.acc,h.vote⟩
instance [h:OkR K s](t:Int)(m:MsgT):OkR K (B5 K s t m):=inferInstanceAs (OkR K (it K s _))
instance [h:OkR K s](r:RecT):OkR K (dY K s r):=⟨K.sure _ _ h.e (A1 r),h.id,h.view,h.own,h.mir,h.book,h.last,h.acc,h.vote⟩
instance [h:OkR K s](a b c:Int):OkR K (de s a b c):=⟨h.e,h.id,h.view,h.own,h.mir,h.book,h.last,h.acc,h.vote⟩
instance [h:OkR K s]:OkR K (br s):=⟨h.e,h.id,h.view,h.own,h.mir,h.book,h.last,h.acc,h.vote⟩
instance [h:OkR K s](f:Int):OkR K (iq s f):=⟨h.e,h.id,h.view,h.own,h.mir,h.book,h.last,h.acc,h.vote⟩
instance [h:OkR K s]:OkR K (lH s):=⟨h.e,h.id,h.view,h.own,h.mir,h.book,h.last,h.acc,h.vote⟩
theorem xC{b:BookT}{w:Int}{x:RowT}(h: ∀(i:Nat) (h:i<5),OkRow b.rows[i])(hx:OkRow x): ∀(i:Nat) (h:i<5),OkRow (fB b w x).1.rows[i]:=by
 unfold fB;split
 · unfold yN
   split
   · exact nI (p:=OkRow) (fb (by assumption)) h hx
   · exact h
 · exact h
instance OkR.merge[h:OkR K s](w:Int)(x:RowT)[hx:OkRow x]:OkR K (D7 s w x):=⟨h.e,h.id,h.view,h.own,h.mir,xC h.book hx,h.last,h.acc,h.vote⟩
instance [h:OkR K s]:OkR K (gy s):=⟨h.e,h.id,h.view,h.own,h.mir,xC h.book h.own,h.last,h.acc,h.vote⟩
theorem Cm{b:MirT}{w:Int}{x:RowT}(h: ∀(i:Nat) (h:i<5),OkRow b.rows[i])(hx:OkRow x): ∀(i:Nat) (h:i<5),OkRow (lT b w x).1.rows[i]:=by
 unfold lT;split
 · unfold y1
   split
   · exact nI (p:=OkRow) (fb (by assumption)) h hx
   · exact h
 · exact h
instance [h:OkR K s](w:Int)(x:RowT)[hx:OkRow x]:OkR K (io s w x):=⟨h.e,h.id,h.view,h.own,Cm h.mir hx,h.book,h.last,h.acc,h.vote⟩
instance [h:OkR K s](w:Int):OkR K (ly s w):=⟨h.e,h.id,h.view,h.own,λi hi=>by
 show OkRow (nr s.mirror w).rows[i]
 unfold nr;split<;>exact h.mir i hi,h.book,h.last,h.acc,h.vote⟩
instance [h:OkR K s](x:RowT)[hx:OkRow x](op:Int):OkR K (tt s x op):=⟨h.e,h.id,h.view,hx,h.mir,h.book,h.last,h.acc,h.vote⟩
instance [OkR K s]:OkR K (fe K s):=inferInstanceAs (OkR K (it K s _))
instance [OkR K s](y:RowT):OkR K (lZ K s y):=inferInstanceAs (OkR K (it K s _))
instance [OkR K s](v:ViewT):OkR K (m7 K s v):=inferInstanceAs (OkR K (it K s _))
instance [OkR K s](m:MsgT):OkR K (jr K s m):=inferInstanceAs (OkR K (it K s _))
instance [OkR K s](x:RowT)[OkRow x](op:Int):OkR K (eF K s x op).1:=by unfold eF;split<;>exact inferInstance
instance [h:OkR K s]:OkR K (mq K s):=by
 unfold mq;split
 · exact h
 split
 · exact inferInstance
 · exact h
instance [OkR K s]:OkR K (ld K s):=by unfold ld;exact inferInstance
instance [h:OkR K s](f:Int)(m:MsgT):OkR K (dH K s f m):=by
 unfold dH
 repeat' split
 all_goals exact inferInstance
instance [h:OkR K s](f:Int)(m:MsgT)[OkMg m]:OkR K (iD K s f m):=by
 unfold iD
 repeat' split
 all_goals exact inferInstance
theorem HS{v:Vector RowT 5}{w:Int}{x:RowT}(h: ∀(i:Nat) (h:i<5),OkRow v[i])(hx:OkRow x): ∀(i:Nat) (h:i<5),OkRow (Ad v w x)[i]:=by
 unfold Ad;split
 · exact nI (p:=OkRow) (fb (by assumption)) h hx
 · exact h
instance [h:OkR K s](w:Int)(x:RowT)[hx:OkRow x]:OkR K (k8 s w x):=⟨h.e,h.id,h.view,h.own,h.mir,h.book,by
 show ∀(i:Nat) (h:i<5),OkRow (if qa s w=0∨(mT s w).version<x.version then Ad s.last w x else s.last)[i];split
 · exact HS h.last hx
 · exact h.last,h.acc,h.vote⟩
instance [OkR K s](f w:Int)(y:RowT)[OkRow y]:OkR K (uB s f w y):=by
 have h:OkR K (k8 s w y):=inferInstance;exact⟨h.e,h.id,h.view,h.own,h.mir,h.book,h.last,h.acc,h.vote⟩
instance [h:OkR K s](f:Int)(m:MsgT)[OkMg m]:OkR K (fM K s f m):=by unfold fM;split<;>exact inferInstance
theorem uT[OkR K s]{f:MS δ→MS δ}(hf:OkR K (f s))(t:Int)(m:MsgT):OkR K (mH K f s t m):=by unfold mH;split;exact hf;exact inferInstance
instance [h:OkR K s](f w:Int):OkR K (fj K s f w):=by
 unfold fj
 repeat' split
 · exact h
 · exact uT inferInstance _ _
 · exact inferInstance
 · exact uT inferInstance _ _
instance [h:OkR K s](i w:Int):OkR K (gQ K s i w):=by
 unfold gQ;split
 · exact h
 · exact uT inferInstance _ _
instance [OkR K s](i:Int):OkR K (pp K s i):=by unfold pp;exact inferInstance
theorem sP: ∀(l:List Int) (s:MS δ),OkR K s→OkR K (fL K l s)
 | [],_,h=>h
 |i::l,s,h=>sP l (pp K s i) inferInstance
instance [h:OkR K s]:OkR K (qE K s):=sP _ _ h
theorem LF(n:Int)(h:qQ n):WF ({AccT.zero with epoch:=n}:AccT).flat:=λk hk=>by
 have q:k∈[n,0,0,0,0,0,0,0]:=hk;simp only[ci,List.not_mem_nil,or_false,or_self]at q;rcases q with rfl|rfl
 · exact mD h
 · decide
instance [h:OkR K s](v:ViewT)[hv:OkVw v]:OkR K (mo s v):=⟨h.e,h.id,hv,h.own,h.mir,h.book,h.last,LF _ (zE (hv.wf _ (by simp[ViewT.flat]))),λ_ e=>nomatch e⟩
instance [h:OkR K s](v:ViewT)[OkVw v]:OkR K (gW K s v):=by
 unfold gW
 repeat' split
 all_goals exact inferInstance
instance [h:OkR K s](f:Int)(m:MsgT)[OkMg m]:OkR K (l3 K s f m):=by unfold l3;exact inferInstance
instance [h:OkR K s](c:ChangeT):OkR K (kM K s c):=by
 unfold kM
 repeat' split
 all_goals exact inferInstance
class OkAc(a:AccT):Prop where wf:WF a.flat
instance [h:OkR K s]:OkAc s.acc:=⟨h.acc⟩
theorem m3{a b:List Int}(h:WF (a++b)):WF a:=λn hn=>h n (List.mem_append_left _ hn)
theorem sd{a b:List Int}(h:WF (a++b)):WF b:=λn hn=>h n (Nf _ hn)
theorem OkAc.vow{a:AccT}(h:OkAc a):WF a.vow.flat:=sd (m3 (m3 h.wf))
theorem OkAc.had{a:AccT}(h:OkAc a):WF a.had.flat:=sd (m3 h.wf)
theorem OkAc.change{a:AccT}(h:OkAc a):WF a.change.flat:=sd h.wf
theorem OkAc.epoch{a:AccT}(h:OkAc a):WF [a.epoch]:=m3 (m3 (m3 h.wf))
theorem OkAc.ask{a:AccT}(h:OkAc a){ep:Int}{b:BallotT}(hb:WF b.flat):OkAc (bQ a ep b).1:=by
 unfold bQ;split
 · exact h
 · exact⟨lw (lw (lw h.epoch hb) h.had) h.change⟩
theorem OkAc.put{a:AccT}(h:OkAc a){ep:Int}{b:BallotT}{c:ChangeT}(hb:WF b.flat)(hc:WF c.flat):OkAc (gh a ep b c).1:=by
 unfold gh;split
 · exact h
 · exact⟨lw (lw (lw h.epoch hb) hb) hc⟩
instance [h:OkR K s](n:Int):OkR K (dd s n):=⟨h.e,h.id,h.view,h.own,h.mir,h.book,h.last,h.acc,h.vote⟩
instance [h:OkR K s](v:VoteT)[hv:OkVt v]:OkR K (kO s v):=⟨h.e,h.id,h.view,h.own,h.mir,h.book,h.last,h.acc,λ_ e=>cR e▸hv⟩
instance [h:OkR K s](a:AccT)[ha:OkAc a]:OkR K (wh s a):=⟨h.e,h.id,h.view,h.own,h.mir,h.book,h.last,ha.wf,h.vote⟩
instance {v:VoteT}[h:OkVt v]{m:MsgT}[hm:OkMg m](w:Int):OkVt (eD v w m.ballot m.had m.change).1:=by
 unfold eD;split
 · exact h
 · unfold uA
   split
   · exact⟨h.view,h.ballot,hm.change,hm.had⟩
   · exact⟨h.view,h.ballot,h.change,h.best⟩
instance {v:VoteT}[h:OkVt v](w:Int)(b:BallotT):OkVt (gf v w b).1:=by
 unfold gf;split
 · exact h
 · exact⟨h.view,h.ballot,h.change,h.best⟩
instance {m:MsgT}[hm:OkMg m][h:OkR K s](ep:Int):OkAc (bQ s.acc ep m.ballot).1:=OkAc.ask ⟨h.acc⟩ hm.ballot
instance {m:MsgT}[hm:OkMg m][h:OkR K s](ep:Int):OkAc (gh s.acc ep m.ballot m.change).1:=OkAc.put ⟨h.acc⟩ hm.ballot hm.change
instance tookF_ok[h:OkR K s](f:Int)(m:MsgT):OkR K (kQ K f m s):=by
 unfold kQ;split
 · exact h
 · rename_i vt hv
   have:=h.vote vt hv;split<;>exact inferInstance
theorem q6[h:OkR K s]{f:MS δ→MS δ}(hf: ∀s:MS δ,OkR K s→OkR K (f s))(w:Int)(m:MsgT):OkR K (eE K f s w m):=by
 unfold eE
 repeat' split
 · exact inferInstance
 · exact h
 · exact h
 · exact hf _ inferInstance
instance [OkR K s](w:Int)(m:MsgT):OkR K (qe K s w m):=q6 (λ_ _=>inferInstance) w m
instance [h:OkR K s](w:Int)(m:MsgT):OkR K (nf K w m s):=by unfold nf;exact inferInstance
instance [h:OkR K s](w:Int)(m:MsgT)[OkMg m]:OkR K (oi K w m s):=by
 unfold oi
 repeat' split
 all_goals exact inferInstance
instance [OkR K s](w:Int)(m:MsgT)[OkMg m]:OkR K (st K s w m):=q6 (λ_ _=>inferInstance) w m
instance OkMg.putM(ep:Int){vt:VoteT}[h:OkVt vt]:OkMg (iI ep vt.ballot vt.change):=⟨.zero, .zero,h.ballot,gC,h.change⟩
instance OkMg.askM(ep:Int){vt:VoteT}[h:OkVt vt]:OkMg (fk ep vt.ballot):=⟨.zero, .zero,h.ballot,gC,ow⟩
instance OkMg.takenM(ep:Int){m:MsgT}[h:OkMg m]:OkMg (jv ep m.ballot):=⟨.zero, .zero,h.ballot,gC,ow⟩
theorem OkMg.promM(ep:Int){m:MsgT}[h:OkMg m]{a:AccT}(ha:OkAc a):OkMg (kg ep m.ballot a.had a.change):=⟨.zero, .zero,h.ballot,ha.had,ha.change⟩
theorem tf[h:OkR K s]{f:MS δ→MsgT→MS δ}{m:MsgT}(hf: ∀s:MS δ,OkR K s→OkR K (f s m)):OkR K (jx K f s m):=by
 unfold jx;split
 · exact hf _ inferInstance
 · exact inferInstance
instance [h:OkR K s](vt:VoteT)[OkVt vt]:OkR K (kh K s vt):=tf λ_ _=>inferInstance
instance [h:OkR K s](f:Int)(m:MsgT)[OkMg m]:OkR K (oL K f m s):=by
 unfold oL;split
 · exact h
 · rename_i vt hv
   have:=h.vote vt hv;split<;>exact inferInstance
instance [OkR K s](w:Int)(m:MsgT)[OkMg m]:OkR K (qg K s w m):=q6 (λ_ _=>inferInstance) w m
theorem wc[h:OkR K s](w:Int)(m:MsgT)[OkMg m]{a:AccT}(ha:OkAc a):OkR K (nA K w m a s):=by
 have:=OkMg.promM m.epoch (m:=m) ha;unfold nA;exact inferInstance
instance [h:OkR K s](w:Int)(m:MsgT)[OkMg m]:OkR K (pw K w m s):=by
 unfold pw
 repeat' split
 · exact h
 · exact inferInstance
 · exact wc w m inferInstance
 · exact wc w m inferInstance
instance [OkR K s](w:Int)(m:MsgT)[OkMg m]:OkR K (su K s w m):=q6 (λ_ _=>inferInstance) w m
instance [h:OkR K s](vt:VoteT)[OkVt vt]:OkR K (mi K s vt):=tf λ_ _=>inferInstance
instance [h:OkR K s](vt:VoteT)[OkVt vt]:OkR K (nh K s vt):=by unfold nh;split<;>exact inferInstance
theorem BG{v:VoteT}{w:Int}{b had:BallotT}{c:ChangeT}(h:(eD v w b had c).2=true):(eD v w b had c).1.putting=true:=by
 unfold eD at h ⊢;split
 · rename_i q;rw[if_pos q]at h;cases h
 · rename_i q;rw[if_neg q]at h;exact h
theorem FY(s:MS δ)[h:OkR K s]:WF (en s).flat:=Hp (kF _) (by have:0≤s.id∧s.id<5:=of_decide_eq_true h.id;exact⟨by show _≤s.id;omega,by show s.id<_;omega⟩)
class OkCh(c:ChangeT):Prop where wf:WF c.flat
instance newVote_ok[h:OkR K s](c:ChangeT)[hc:OkCh c]:OkVt (jc s.view (en s) c):=⟨h.view,FY s,hc.wf,gC⟩
instance {vt:VoteT}[h:OkVt vt]:OkCh vt.change:=⟨h.change⟩
instance [h:OkR K s](c:ChangeT)[OkCh c]:OkR K (qH K s c):=by
 have:OkAc (bQ s.acc s.view.epoch (en s)).1:=OkAc.ask ⟨h.acc⟩ (FY s);unfold qH;exact inferInstance
instance [h:OkR K s](c:ChangeT)[OkCh c]:OkR K (cn K s c).1:=by
 unfold cn
 repeat' split
 all_goals exact inferInstance
theorem qG{c:ChangeT}(h:(cn K s c).2=0):(cn K s c).1.vote=some (jc s.view (en s) c):=by
 unfold cn at h ⊢
 by_cases h1:(bQ s.acc s.view.epoch (en s)).2=false
 · rw[if_pos h1]at h;cases h
 by_cases h2:rz K s (gI s.view.epoch (en s))≠0
 · rw[if_neg h1,if_pos h2]at h;exact absurd h h2
 · rw[if_neg h1,if_neg h2];rfl
instance [h:OkR K s](op:Int)(c:ChangeT)[OkCh c]:OkR K (dN K s op c).1:=by
 unfold dN
 repeat' split
 all_goals exact inferInstance
instance [h:OkR K s](o:OpT):OkR K (mZ K s o).1:=by
 unfold mZ
 repeat' split
 all_goals exact inferInstance
instance [h:OkR K s](o:OpT)[OkCh o.change]:OkR K (bP K s o).1:=by unfold bP;split<;>exact inferInstance
instance [h:OkR K s]:OkR K (bS K s):=by unfold bS;exact inferInstance
instance [h:OkR K s]:OkR K (cb K s):=by unfold cb;exact inferInstance
instance [h:OkR K s]:OkR K (fQ K s):=by unfold fQ;exact inferInstance
instance [h:OkR K s]:OkR K (rf K s):=by
 unfold rf;split
 · exact h
 · rename_i vt hv
   have:=h.vote vt hv
   repeat' split
   all_goals exact inferInstance
instance [h:OkR K s]:OkR K (hO K s):=by unfold hO;exact inferInstance
instance [h:OkR K s](f:Int)(m:MsgT)[OkMg m]:OkR K (fu K s f m):=by
 unfold fu
 repeat' split
 all_goals exact inferInstance
theorem ig(s:MS δ)(c:ChangeT):(cn K s c).1.replies=s.replies:=by
 unfold cn;split
 · rfl
 · split<;>rfl
theorem je(s:MS δ)(x:RowT)(op:Int):(eF K s x op).1.replies=s.replies:=by unfold eF;split<;>rfl
end
end Api
end

section
namespace Leg
open Go Codec Api Go.Conc
section
variable {P:Program} {w0:World} {F:Hl} {n:Nat} {ops:Array Oper} {Q:QQ} {is:List Nat} {D:List Deferred} {L:List (Nat×Value)} {H:List HP} {i d:Nat} {o:Oper}
theorem TX.recv1{x:Operand}{t e:TypeId}{dir:ChanDir}{c cap s r:Nat}{z v:Value}{vs vs0:List Value}(k:Nat)(ho:ops[i]?=some o)(hw:Want n D ops o L)(hop:o.op= .recv t x false)(hd:o.dst=some d)(hn:Nat.blt d n=true)(ht:P.underlying t=some (.chan dir e))(hz:(P.info? e).map (·.zero)=some (some z))
 (hx:cQ L x=some (.chan (some c))) (hk:Nat.blt k H.length=true) (hH:H.getD k (λ_=>True)=dR c cap vs0 s r) (he:vs0=v::vs)
 (h:TX P w0 F n ops Q is D ((d,v)::L) (H.set k (dR c cap vs s (r+1)))):TX P w0 F n ops Q (i::is) D L H:=λa w f sm m=>by
 subst he;have hc:=m.chan k hk hH
 have hr:(execOp a.eval o).run P w= .ok (.comm #[{chan:= .chan (some c),send:=none,zero:=z}] true (.recv false)) w:=by
  simp[execOp,hop,f.eval hx,Sem.run_bind,run_underlying ht,nc hz]
 refine JS (v:=v) (w2:=w.setChan c cap vs.toArray false s (r+1) false) ho (hw a f) hr (λfr cs es hs=>?_) ?_
 · have:=step_lone_recv_buf false hs hc (by simp)
   rw[this];simp[got]
 · rw[hd]
   exact h _ _ (f.put (lb hn) _) (sm.setChan ..) (m.setChan k hk hH)
theorem TX.send1{x y:Operand}{c cap s r:Nat}{v:Value}{vs:List Value}(k:Nat)(ho:ops[i]?=some o)(hw:Want n D ops o L)(hop:o.op= .send x y)(hd:o.dst=none)
 (hx:cQ L x=some (.chan (some c))) (hy:cQ L y=some v) (hk:Nat.blt k H.length=true) (hH:H.getD k (λ_=>True)=dR c cap vs s r) (hroom:vs.length<cap)
 (h:TX P w0 F n ops Q is D L (H.set k (dR c cap (vs++[v]) (s+1) r))):TX P w0 F n ops Q (i::is) D L H:=λa w f sm m=>by
 have hc:=m.chan k hk hH
 have hr:(execOp a.eval o).run P w= .ok (.comm #[{chan:= .chan (some c),send:=some v,zero:= .tuple #[]}] true .send) w:=by
  simp[execOp,hop,f.eval hx,f.eval hy,Sem.run]
 refine JS (v:=undef) (w2:=w.setChan c cap (vs++[v]).toArray false (s+1) r false) ho (hw a f) hr (λfr cs es hs=>?_) ?_
 · have:=step_lone_send_room hs hc (by simpa using hroom)
   rw[this];simp
 · rw[hd]
   exact h _ _ f (sm.setChan ..) (m.setChan k hk hH)
end
def AQ(k:Nat)(u:Value):Value:=if k=0 then .slice none 0 0 else u
theorem Gi{α:Type}{l:List α}{k:Nat}(h:k<l.length):l.drop k++l.take k=l[k]::(l.drop (k+1)++l.take k):=by rw[di h];rfl
theorem Am{α:Type}{l:List α}{k:Nat}(h:k<l.length):(l.drop (k+1)++l.take k)++[l[k]]=l.drop (k+1)++l.take (k+1):=by rw[aY,bW h]
end Leg
namespace Leg
open Go
theorem G4{us:List Value}{k:Nat}(h:k=0)(hk:k<us.length):us[k]=AQ (k+1) (us.getD 0 undef):=by
 subst h;unfold AQ;rw[if_neg (by omega)];simp[List.getD_eq_getElem?_getD,hk]
theorem G2{u:Value}{k:Nat}(h: ¬k=0):AQ k u=AQ (k+1) u:=by unfold AQ;rw[if_neg h,if_neg (by omega)]
theorem G3{u:Value}{k:Nat}(h: ¬k=0):AQ k u=u:=if_neg h
end Leg
namespace Leg
open Go
def rc{α:Type}:List α→List α
 | []=>[]
 |a::l=>l++[a]
def FX{α:Type}(l:List α):Bool:=decide (l.length≠0∧l.length≠8)
def BK{α:Type}[Inhabited α](l:List α):List α:=if l.length≠0∧l.length≠8 then l++[l.getD 0 default]else l
end Leg
namespace Leg
open Go
def kx{α:Type}:Nat→List α→List α
 |0,l=>l
 |n+1,l=>rc (kx n l)
theorem Em{α:Type}(l:List α):(rc l).length=l.length:=by cases l<;>simp[rc]
theorem jQ{α:Type}: ∀(n:Nat) (l:List α),(kx n l).length=l.length
 |0,_=>rfl
 |n+1,l=>by rw[kx,Em,jQ n l]
theorem El{α:Type}{l:List α}{x:α}:x∈rc l↔x∈l:=by
 cases l with
 |nil=>rfl
 |cons a l=>simp[rc,or_comm]
theorem nJ{α:Type}{x:α}: ∀(n:Nat) (l:List α),x∈kx n l↔x∈l
 |0,_=>Iff.rfl
 |n+1,l=>by rw[kx,El,nJ n l]
theorem xk{α β:Type}(f:α→β)(l:List α):rc (l.map f)=(rc l).map f:=by cases l<;>simp[rc]
theorem HM{α β:Type}[Inhabited α][Inhabited β](f:α→β)(l:List α):BK (l.map f)=(BK l).map f:=by
 unfold BK;rw[bK];split
 · rename_i h
   cases l with
   |nil=>exact absurd rfl h.1
   |cons a l=>simp
 · rfl
theorem HN{α β:Type}(f:α→β)(l:List α):FX (l.map f)=FX l:=by unfold FX;rw[bK]
end Leg
end

section
namespace Api
open Go Leg Codec Dsk Wal
instance :Inhabited MsgT:=⟨.zero⟩
structure LD where
 cnt:Nat
 used:Int
 D:DS
structure DkOk(D:DS):Prop where
 ok:D.Ok
 inn:Wal.DS.In D
 ws:D.ws.length≤2048
 up:D.dn=false→D.ws=[]
def Wrote(D:DS)(n:Nat)(r:Int×DS):Prop:=r.2.Ok∧Wal.DS.In r.2∧((D.dn=true∧r.2=D)∨(D.dn=false∧r.2.ws.length≤D.ws.length+n∧(r.1=0→r.2.dn=false)∧(r.1≠0→r.2.dn=true)))
theorem Wrote.none{D:DS}(h:D.Ok)(hi:Wal.DS.In D):Wrote D 0 (0,D):=⟨h,hi,by
 cases hd:D.dn
 · exact .inr ⟨rfl,aP _,λ_=>by first|exact hd|rfl,λq=>absurd rfl q⟩
 · exact .inl ⟨rfl,rfl⟩⟩
theorem Wrote.more{D:DS}{n m:Nat}{r:Int×DS}(h:Wrote D n r)(hm:n≤m):Wrote D m r:=⟨h.1,h.2.1,h.2.2.imp id λ⟨a,b,c⟩=>⟨a,by omega,c⟩⟩
theorem Wrote.one{D:DS}(h:D.Ok)(hi:Wal.DS.In D){at':Int}{bs:List UInt8}(h1:0≤at'∧at'<2048)(h2:bs.length≤64):Wrote D 1 (D.write at' bs):=by
 cases hd:D.dn
 · by_cases hc:D.ar=true∧D.lf=0
   · rw[BC h1 h2 hc]
     exact⟨⟨h.s,h.ws,h.lf⟩,hi, .inr ⟨hd,Nat.le_succ _,(λq=>absurd q (by show ¬(4:Int)=0;decide)),λ_=>rfl⟩⟩
   · have h4:D.ar=false∨0<D.lf:=by
      have:=h.lf;cases q:D.ar
      · exact .inl rfl
      · right
        have:D.lf≠0:=λe=>hc ⟨q,e⟩
        omega
     rw[ul h1 h2 hd h4];exact⟨Dw h h2 h4,Dx hi h1, .inr ⟨hd,by simp[Cc],λ_=>rfl,λq=>absurd rfl q⟩⟩
 · have e:D.write at' bs=(4,D):=by
    rw[DS.write,if_neg (by omega),if_pos (.inl hd)];cases D;simp only at hd;rw[hd]
   rw[e];exact⟨h,hi, .inl ⟨hd,rfl⟩⟩
theorem Wrote.then{D:DS}{n m:Nat}{r q:Int×DS}(h:Wrote D n r)(h0:r.1=0)(g:Wrote r.2 m q):Wrote D (n+m) q:=by
 obtain⟨_,_,h⟩:=h;refine⟨g.1,g.2.1,?_⟩;rcases h with⟨hd,e⟩| ⟨hd,hl,hz,_⟩
 · rw[e]at g
   rcases g.2.2 with⟨_,e2⟩| ⟨hd2,_⟩
   · exact .inl ⟨hd,e2⟩
   · rw[hd]at hd2;cases hd2
 · rcases g.2.2 with⟨hd2,_⟩| ⟨_,hl2,h3⟩
   · rw[hz h0]at hd2;cases hd2
   · exact .inr ⟨hd,by omega,h3⟩
theorem Wrote.writes: ∀(ss:List js) (at':Int) (D:DS),D.Ok→Wal.DS.In D→0≤at'→at'+ss.length≤2048→(∀s∈ss,s.length=64)→Wrote D ss.length (fX ss at' D)
 | [],_,D,h,hi,_,_,_=>Wrote.none h hi
 |s::ss,at',D,h,hi,h0,h1,hs=>by
  simp only[ax]at h1;have h2:=hs s (by simp);have o:=Wrote.one h hi (at':=at') (bs:=s) (by omega) (by omega);rw[fX];split
  · rename_i hz
    have:=o.then hz (Wrote.writes ss (at'+1) _ o.1 o.2.1 (by omega) (by omega) λx hx=>hs x (by simp[hx]))
    rwa [lE]at this
  · exact o.more (by simp)
theorem Wrote.wipes: ∀(n:Nat) (at':Int) (D:DS),D.Ok→Wal.DS.In D→0≤at'→at'+n≤2048→Wrote D n (jk n at' D)
 |0,_,D,h,hi,_,_=>Wrote.none h hi
 |n+1,at',D,h,hi,h0,h1=>by
  rw[jk];split
  · exact(Wrote.wipes n (at'+1) D h hi (by omega) (by omega)).more (by omega)
  · have o:=Wrote.one h hi (at':=at') (bs:=[]) (by omega) (by simp)
    split
    · rename_i hz
      have:=o.then hz (Wrote.wipes n (at'+1) _ o.1 o.2.1 (by omega) (by omega))
      rwa [lE]at this
    · exact o.more (by omega)
theorem DkOk.wrote{D:DS}(h:DkOk D){n:Nat}{r:Int×DS}(g:Wrote D n r)(hn:n≤2048):(r.1≠0→DkOk r.2)∧DkOk r.2.sync.2:=by
 obtain⟨ho,hi,hr⟩:=g;rcases hr with⟨hd,e⟩| ⟨hd,hl,h0,h1⟩
 · rw[e]
   refine⟨λ_=>h,?_⟩;rw[DS.sync,if_pos hd];exact h
 · rw[h.up hd]at hl
   simp only[aA,bh]at hl;refine⟨λq=>⟨ho,hi,by omega,λz=>by rw[h1 q]at z;cases z⟩,?_⟩
   by_cases q:r.1=0
   · obtain⟨_,s2,_⟩:=sw (h0 q)
     exact⟨DS.sync_ok ho,Do hi,by rw[s2];exact aN _,λ_=>s2⟩
   · rw[DS.sync,if_pos (h1 q)]
     exact⟨ho,hi,by show r.2.ws.length≤2048;omega,λz=>by rw[show r.2.dn=true from h1 q]at z;cases z⟩
theorem uY{D:DS}(hI:Wal.DS.In D)(hD:D.Ok): ∀(f:Nat) (cnt used:Int),0≤used→used≤2048→0≤(fE D.read f cnt used).2∧(fE D.read f cnt used).2≤2048∧(fE D.read f cnt used).1.length≤f
 |0,_,_,h0,h1=>⟨h0,h1,aP _⟩
 |f+1,cnt,used,h0,h1=>by
  rw[fE];split
  · exact⟨h0,h1,aN _⟩
  · rename_i b all h
    have h2:=nN hI hD h0 h;have h3:=(kH (lu hD _) h).1;obtain⟨a,b',c⟩:=uY hI hD f (cnt+1) (used+all) (by omega) h2;exact⟨a,b',by simp only[ax];omega⟩
theorem DkOk.open{D:DS}(h:DkOk D):DkOk (bL D).D∧0≤(bL D).used∧(bL D).used≤2048∧(bL D).recs.length≤2049:=by
 obtain⟨a,b,c⟩:=uY h.inn h.ok iO 0 0 (by omega) (by omega);rw[rI]at c;have w:=h.wrote (Wrote.wipes (2048- (fE D.read iO 0 0).2).toNat _ D h.ok h.inn a (by omega)) (by omega);unfold bL;simp only;split
 · rename_i q;exact⟨w.1 q,by show(0:Int)≤0;omega,by show(0:Int)≤2048;omega,aN _⟩
 · split
   · exact⟨w.2,by show(0:Int)≤0;omega,by show(0:Int)≤2048;omega,aN _⟩
   · exact⟨w.2,a,b,by rw[←rI]at c;exact c⟩
theorem DkOk.arm{D:DS}(h:DkOk D)(n:Int)(hn:n≤9223372036854775807):DkOk (D.arm n):=⟨⟨h.ok.s,h.ok.ws,by show 0≤max n 0∧max n 0≤9223372036854775807;omega⟩,h.inn,h.ws,h.up⟩
theorem DkOk.crash{D:DS}(h:DkOk D)(mask torn cut:Int):DkOk (D.crash mask torn cut):=by
 have c:=Calm.crash h.ok h.inn mask torn cut;exact⟨c.ok,c.inn,aN _,λ_=>rfl⟩
theorem DkOk.new:DkOk .new:=⟨⟨lY,lY,by simp[DS.new],by simp[DS.new]⟩,⟨Nb,Nb⟩,aN _,λ_=>rfl⟩
structure LD.Ok(e:LD):Prop where
 dk:DkOk e.D
 used:0≤e.used∧e.used≤2048
 cnt:(e.cnt:Int)≤4100+e.used
def LD.put(e:LD)(bs:List UInt8):LD×Int:=(⟨(ng e.D e.cnt e.used bs).cnt,(ng e.D e.cnt e.used bs).used,(ng e.D e.cnt e.used bs).D⟩,(ng e.D e.cnt e.used bs).err)
theorem LD.put_ok(e:LD)(bs:List UInt8)(h:e.Ok)(hb:bs.length≤3000):(e.put bs).1.Ok:=by
 obtain⟨⟨ho,hi,hw,hu⟩,h1,h2⟩:=h;unfold LD.put ng;rw[if_neg (by omega)]
 by_cases hf:(bp bs.length:Int)>2048-e.used
 · rw[if_pos hf];exact⟨⟨ho,hi,hw,hu⟩,h1,h2⟩
 rw[if_neg hf];have hp:0<bp bs.length:=o8 _;have hl:(cj ((e.cnt+1:Nat):Int) bs).length=bp bs.length:=el _ _;have w:=DkOk.wrote ⟨ho,hi,hw,hu⟩ (Wrote.writes (cj ((e.cnt+1:Nat):Int) bs) e.used e.D ho hi h1.1 (by omega) (yD _ _)) (by omega);simp only;split
 · rename_i q;exact⟨w.1 q,h1,h2⟩
 · split
   · exact⟨w.2,h1,h2⟩
   · exact⟨w.2,(by show 0≤e.used+(bp bs.length:Int)∧e.used+(bp bs.length:Int)≤2048;omega),by show((e.cnt+1:Nat):Int)≤4100+(e.used+bp bs.length);omega⟩
def KD:Dk LD:=⟨LD.put,λe=>e.D.dn,LD.Ok,LD.put_ok⟩
structure Slot where
 run:Option (MS LD)
 D:DS
 past:List ReplyT
structure CL where
 ms:List Slot
 W:List (List MsgT)
def Slot.nil:Slot:=⟨none, .new,[]⟩
def CL.at'(a:CL)(i:Nat):Slot:=a.ms.getD i .nil
def Slot.dk(x:Slot):DS:=match x.run with
 |some s=>s.e.D
 |none=>x.D
def Slot.reps(x:Slot):List ReplyT:=x.past++(match x.run with
 |some s=>s.replies
 |none=>[])
def Slot.up(x:Slot):Bool:=match x.run with
 |some s=> !s.e.D.dn
 |none=>false
def CL.set(a:CL)(i:Nat)(x:Slot):CL:= {a with ms:=a.ms.set i x}
def ry(W:List (List MsgT))(f:Nat)(s:SaidT):List (List MsgT):=if dA ((f:Nat):Int) s.to' then W.set (bq ((f:Nat):Int) s.to') (if(W.getD (bq ((f:Nat):Int) s.to') []).length<8 then W.getD (bq ((f:Nat):Int) s.to') []++[s.msg]else W.getD (bq ((f:Nat):Int) s.to') [])else W
def gn(W:List (List MsgT))(f:Nat)(l:List SaidT):List (List MsgT):=l.foldl (λW s=>ry W f s) W
def MS.hush{δ:Type}(s:MS δ):MS δ:= {s with o:=[]}
def CL.did(a:CL)(i:Nat)(s:MS LD):CL:=⟨a.ms.set i {a.at' i with run:=some s.hush},gn a.W i s.o⟩
def Jj(a:CL)(i:Int):Bool:=eX i&&(a.at' i.toNat).up
def MS.dsk(s:MS LD)(D:DS):MS LD:= {s with e:= {s.e with D:=D}}
def sT(x:Slot)(n:Int):Slot:=match x.run with
 |some s=> {x with run:=some (s.dsk (s.e.D.arm n))}
 |none=> {x with D:=x.D.arm n}
def mW(x:Slot)(mask torn cut:Int):Slot:=⟨none,x.dk.crash mask torn cut,x.reps⟩
def dI(i:Nat)(D:DS):Option (MS LD)×Int:=
 if(bL D).err≠0 then(none,(bL D).err)
 else match kU (bL D).recs (Ay ((i:Nat):Int) (⟨(bL D).recs.length,(bL D).used,(bL D).D⟩:LD))with
  |none=>(none,1)
  |some s=>(some s,0)
def gx(i:Nat)(x:Slot):Slot×Int:=match x.run with
 |some _=>(x,5)
 |none=>({x with run:=(dI i x.D).1,D:=(bL x.D).D},(dI i x.D).2)
def p4(a:CL)(f t:Nat)(m:MsgT):CL×Int:=match(a.at' t).run with
 |none=>(a,0)
 |some s=>if s.e.D.dn then(a,0)else if(gO (dm m)).2=0 then(a.did t (fu KD s ((f:Nat):Int) (gO (dm m)).1),0)else(a,(gO (dm m)).2)
def CL.way(a:CL)(k:Nat)(l:List MsgT):CL:= {a with W:=a.W.set k l}
def m5(a:CL)(o:OpT):CL×Int:=
 if dA o.at' o.to'=false then(a,5)
 else match a.W.getD (bq o.at' o.to') []with
  | []=>(a,10)
  |m::l=>
   if o.kind=7 then(if FX (m::l)then(a.way (bq o.at' o.to') (BK (m::l)),0)else(a,3))
   else match kx (max o.n 0% ((m::l).length:Int)).toNat (m::l)with
    | []=>(a,0)
    |m::l=>if o.kind=6 then(a.way (bq o.at' o.to') l,0)else p4 (a.way (bq o.at' o.to') l) o.at'.toNat o.to'.toNat m
def sO(a:CL)(i:Nat)(o:OpT):CL×Int:=match(a.at' i).run with
 |none=>(a,4)
 |some s=>if s.e.D.dn then(a,4)else(a.did i (bP KD s o).1,(bP KD s o).2)
def ys(a:CL)(i:Nat):CL×Int:=match(a.at' i).run with
 |none=>(a,4)
 |some s=>if s.e.D.dn then(a,4)else(a.did i (hO KD s),0)
def nG(a:CL)(o:OpT):CL×Int:=
 if eX o.at'=false then(a,5)
 else if 0≤o.kind∧o.kind≤4 then sO a o.at'.toNat o
 else if o.kind=5∨o.kind=6∨o.kind=7 then m5 a o
 else if o.kind=8 then ys a o.at'.toNat
 else if o.kind=9 then(a.set o.at'.toNat (sT (a.at' o.at'.toNat) o.n),0)
 else if o.kind=10 then(a.set o.at'.toNat (mW (a.at' o.at'.toNat) o.mask o.torn o.cut),0)
 else if o.kind=11 then(a.set o.at'.toNat (gx o.at'.toNat (a.at' o.at'.toNat)).1,(gx o.at'.toNat (a.at' o.at'.toNat)).2)
 else(a,5)
def bV(a:CL)(l:List OpT):CL:=l.foldl (λa o=>(nG a o).1) a
def lS(i:Nat):Slot:=(gx i .nil).1
def CL.new:CL:=⟨(List.range 5).map lS,List.replicate 25 []⟩
structure Fresh{δ:Type}(i:Int)(e:δ)(s:MS δ):Prop where
 id:s.id=i
 vote:s.vote=none
 replies:s.replies=[]
 e:s.e=e
 o:s.o=[]
 waits:s.waits=0
 ops:s.ops=0
theorem Fresh.rest{δ:Type}{i:Int}{e:δ}{s:MS δ}(h:Fresh i e s)(m:RecT):Fresh i e (jm s m):=by
 obtain⟨h1,h2,h3,h4,h5,h6,h7⟩:=h;unfold jm
 repeat' split
 all_goals exact⟨h1,by first|exact h2|rfl,h3,h4,h5,h6,h7⟩
theorem Fresh.new{δ:Type}(i:Int)(e:δ):Fresh i e (Ay i e):=⟨rfl,rfl,rfl,rfl,rfl,rfl,rfl⟩
abbrev wq:= @Fresh.new
theorem Fresh.read{δ:Type}{i:Int}{e:δ}: ∀(l:List (List UInt8)) {s s':MS δ},Fresh i e s→kU l s=some s'→Fresh i e s'
 | [],s,s',h,q=>by
  obtain rfl:=cR q;exact h
 |b::l,s,s',h,q=>by
  rw[kU]at q;split at q
  · cases q
  · exact Fresh.read l (h.rest _) q
abbrev oC:= @Fresh.read
theorem iG{i:Nat}{D:DS}{s:MS LD}(h:(dI i D).1=some s):(bL D).err=0∧kU (bL D).recs (Ay ((i:Nat):Int) (⟨(bL D).recs.length,(bL D).used,(bL D).D⟩:LD))=some s:=by
 unfold dI at h;split at h
 · cases h
 · rename_i h0
   refine⟨Decidable.not_not.1 h0,?_⟩;split at h
   · cases h
   · rename_i h2;rw[h2];exact h
theorem yp{v:ViewT}{bs r:List UInt8}(h:l8 bs=some (v,r)):OkVw v:=by
 obtain⟨⟨h1,h2,_⟩,_⟩:=sj h;have hr:=q7 h;exact⟨hr,BI ⟨by omega,by omega⟩ ⟨by omega,by omega⟩ hr⟩
theorem pO{b:BallotT}{bs r:List UInt8}(h:jO bs=some (b,r)):WF b.flat:=by
 obtain⟨⟨h1,h2⟩,_⟩:=pv h;exact OkB.wf ⟨h1,h2⟩
theorem C3{c:ChangeT}{bs r:List UInt8}(h:kN bs=some (c,r)):WF c.flat:=by
 obtain⟨⟨h1,h2,h3⟩,_⟩:=tx h;exact OkC.wf ⟨h1,h2,h3⟩
theorem B7{x:RowT}{bs r:List UInt8}(h:tI bs=some (x,r)):OkRow x:=OkRow.of (yF h)
theorem Jz{m:MsgT}{g:Bool}{bs r:List UInt8}(h:cL bs=some ((m,g),r)):OkMg m:=by
 obtain⟨k,r1,_,h⟩:=bE h
 have fin: ∀{m':MsgT} {g':Bool} {b r:List UInt8},pr (m',g') b=some ((m,g),r)→OkMg m'→OkMg m:=λh q=>by
  obtain⟨e,_⟩:=gU h;injection e with e1 e2
  exact e1▸q
 split at h
 · obtain⟨_,_,_,h⟩:=bE h;obtain⟨x,_,hx,h⟩:=bE h;exact fin h ⟨B7 hx, .zero,gC,gC,ow⟩
 split at h
 · obtain⟨_,_,_,h⟩:=bE h;exact fin h ⟨.zero, .zero,gC,gC,ow⟩
 split at h
 · obtain⟨_,_,_,h⟩:=bE h;obtain⟨b,_,hb,h⟩:=bE h;exact fin h ⟨.zero, .zero,pO hb,gC,ow⟩
 split at h
 · obtain⟨_,_,_,h⟩:=bE h;obtain⟨b,_,hb,h⟩:=bE h;obtain⟨d,_,hd,h⟩:=bE h;obtain⟨c,_,hc,h⟩:=bE h;exact fin h ⟨.zero, .zero,pO hb,pO hd,C3 hc⟩
 split at h
 · obtain⟨_,_,_,h⟩:=bE h;obtain⟨b,_,hb,h⟩:=bE h;obtain⟨c,_,hc,h⟩:=bE h;exact fin h ⟨.zero, .zero,pO hb,gC,C3 hc⟩
 split at h
 · obtain⟨v,_,hv,h⟩:=bE h;exact fin h ⟨.zero,yp hv,gC,gC,ow⟩
 split at h
 · obtain⟨_,_,_,h⟩:=bE h;obtain⟨v,_,hv,h⟩:=bE h;exact fin h ⟨.zero,yp hv,gC,gC,ow⟩
 · exact fin h ⟨.zero, .zero,gC,gC,ow⟩
class OkRd(m:RecT):Prop where
 row:OkRow m.row
 view:OkVw m.view
 ballot:WF m.ballot.flat
 change:WF m.change.flat
theorem Jn{m:RecT}{g:Bool}{bs r:List UInt8}(h:df bs=some ((m,g),r)):OkRd m:=by
 obtain⟨k,r1,_,h⟩:=bE h
 have fin: ∀{m':RecT} {g':Bool} {b r:List UInt8},pr (m',g') b=some ((m,g),r)→OkRd m'→OkRd m:=λh q=>by
  obtain⟨e,_⟩:=gU h;injection e with e1 e2
  exact e1▸q
 split at h
 · obtain⟨x,_,hx,h⟩:=bE h;exact fin h ⟨B7 hx, .zero,gC,ow⟩
 split at h
 · obtain⟨_,_,_,h⟩:=bE h;obtain⟨x,_,hx,h⟩:=bE h;exact fin h ⟨B7 hx, .zero,gC,ow⟩
 split at h
 · obtain⟨_,_,_,h⟩:=bE h;exact fin h ⟨.zero, .zero,gC,ow⟩
 split at h
 · obtain⟨_,_,_,h⟩:=bE h;obtain⟨b,_,hb,h⟩:=bE h;exact fin h ⟨.zero, .zero,pO hb,ow⟩
 split at h
 · obtain⟨_,_,_,h⟩:=bE h;obtain⟨b,_,hb,h⟩:=bE h;obtain⟨c,_,hc,h⟩:=bE h;exact fin h ⟨.zero, .zero,pO hb,C3 hc⟩
 split at h
 · obtain⟨v,_,hv,h⟩:=bE h;exact fin h ⟨.zero,yp hv,gC,ow⟩
 · exact fin h ⟨.zero, .zero,gC,ow⟩
theorem D4(bs:List UInt8):OkMg (gO bs).1:=by
 unfold gO;split
 · rename_i m h;exact Jz h
 · exact⟨.zero, .zero,gC,gC,ow⟩
theorem Il(bs:List UInt8):OkRd (mV bs).1:=by
 unfold mV;split
 · rename_i m h;exact Jn h
 · exact⟨.zero, .zero,gC,ow⟩
section
variable {δ:Type} {K:Dk δ} {s:MS δ}
theorem HX(h:OkR K s)(m:RecT)(hm:OkRd m):OkR K (jm s m):=by
 have ha:OkAc s.acc:=⟨h.acc⟩;unfold jm;split
 · exact⟨h.e,h.id,h.view,hm.row,h.mir,h.book,h.last,h.acc,h.vote⟩
 split
 · have:=hm.row;exact inferInstance
 split
 · exact inferInstance
 split
 · exact⟨h.e,h.id,h.view,h.own,h.mir,h.book,h.last,lw (lw (lw ha.epoch hm.ballot) ha.had) ha.change,h.vote⟩
 split
 · exact⟨h.e,h.id,h.view,h.own,h.mir,h.book,h.last,lw (lw (lw ha.epoch hm.ballot) hm.ballot) hm.change,h.vote⟩
 split
 · have:=hm.view;exact inferInstance
 · exact h
theorem yq{v:Vector RowT 5}(h:v= #v[.zero, .zero, .zero, .zero, .zero])(i:Nat)(hi:i<5):OkRow v[i]:=by
 subst h
 match i,hi with
 |0,_|1,_|2,_|3,_|4,_=>exact OkRow.zero
theorem Ib{i:Int}{e:δ}(he:K.ok e)(hi:cH i=true):OkR K (Ay i e):=
 ⟨he,hi, .first, .zero,yq rfl,yq rfl,yq rfl,LF _ (by decide),λ_ q=>nomatch q⟩
theorem Aq: ∀(l:List (List UInt8)) {s s':MS δ},OkR K s→kU l s=some s'→OkR K s'
 | [],s,s',h,q=>by
  obtain rfl:=cR q;exact h
 |b::l,s,s',h,q=>by
  rw[kU]at q;split at q
  · cases q
  · exact Aq l (HX h _ (Il b)) q
theorem xn{i:Nat}(hi:i<5){D:DS}(hD:DkOk D){s:MS LD}(h:(dI i D).1=some s):OkR KD s∧Fresh ((i:Nat):Int) (⟨(bL D).recs.length,(bL D).used,(bL D).D⟩:LD) s:=by
 obtain⟨_,h2⟩:=iG h;obtain⟨o1,o2,o3,o4⟩:=hD.open;exact⟨Aq _ (Ib (K:=KD) ⟨o1,⟨o2,o3⟩,by show(((bL D).recs.length:Nat):Int)≤4100+(bL D).used;omega⟩ (decide_eq_true ⟨by omega,by omega⟩)) h2,oC _ (wq _ _) h2⟩
end
end Api
end

section
namespace Go.Proofs.YtjblgopghhgflaaGreat
open Go Leg Codec Api Dsk Wal
theorem zn(b c s r:Nat)(us:List Value)(x:Value)(bs:List UInt8)(hb:bs.length≤1000000)(hroom:us.length<8):
 DT 138 #[(.pointer (some ⟨b,0,none⟩)),x] (IsW x bs) [aj b [(.chan (some c))] 208,dR c 8 (us) (s) (r)] (dw (λv H=>v= .bool true∧∃u,H=[aj b [(.chan (some c))] 208,dR c 8 (us++[u]) (s+1) r,dL u bs 5])):=by
 refine Leg.Does.body (vs:=[(.pointer (some ⟨b,0,none⟩)),x]) (n:=15) Tryz.func138 rfl rfl rfl (λw0 F hF=>?_);refine sr λ_ J1=>?_
 refine oD ?_;refine nx J1 ?_;refine aa λ_ J2=>?_
 refine sr λ_ J3=>?_
 refine mv ?_;refine tp (fN rfl rfl) ?_;refine tp (a9 (r:=0) rfl Bm rfl sW rfl rfl) ?_;refine tp (gR (v:=(.chan (some c))) rfl tM rfl rfl (eR 0 rfl rfl) rfl) ?_;refine nx J3 ?_;refine af ?_;refine Br (ab rfl) rfl rfl rfl gk kS (λv9=>?_);change TL _ _ _ _ _ _ _ _ _ [dL v9 ([]) 5,aj b [(.chan (some c))] 208,dR c 8 (us) (s) (r)];refine mv ?_;refine cG (k:=0) (news:=ek (bs)) (nn':=(bs:List UInt8).length) (xs':=ek (bs)) (ab rfl) rfl rfl rfl gk xQ rfl rfl rfl rfl rfl rfl (λ_ _=>hF.src (λ_ h=>e5 h)) (eU _) (by simp only[maxLen,aA];omega) (by simp only[aA];omega) (by simp) (ce _) (λv11 ov11=>?_);change TL _ _ _ _ _ _ _ _ _ [dL v11 (bs) 5,aj b [(.chan (some c))] 208,dR c 8 (us) (s) (r)];refine nx J2 ?_;refine aa λ_ J4=>?_
 refine wX ?_;change TX _ _ _ _ _ _ [0,1,2] _ _ _;refine TX.sendRoom 2 rfl (ab rfl) rfl rfl rfl JP rfl rfl rfl rfl hroom ?_;change TX _ _ _ _ _ _ _ _ _ [dL v11 (bs) 5,aj b [(.chan (some c))] 208,dR c 8 (us++[v11]) (s+1) (r)];refine rW rfl (ab rfl) rfl rfl (lp (vs:=[(.int .i64 0),(.bool false)]) rfl rfl rfl) ?_;refine rW rfl (ab rfl) rfl rfl (LJ rfl rfl rfl) ?_;refine IA ?_;refine ac J4 ?_;refine ap ?_;refine mC rfl ?_;refine sr λ_ J5=>?_
 refine oD ?_;refine nx J5 ?_;refine ai ?_;refine aH ?_;refine aE (dE _) (λ_ s=>ak [1,1,0] rfl s) ?_;refine aq rfl rfl ?_;exact⟨rfl,_,rfl⟩
theorem vX(b c s r:Nat)(us:List Value)(ls:List (List UInt8))(h8:ls.length≤8)(hb: ∀x∈ls,x.length≤1000000):
    DT 101 #[(.pointer (some ⟨b,0,none⟩))] T0 [aj b [(.chan (some c))] 208,dR c 8 (us) (s) (r),ej (us) (ls) 5] (dw (λv H=>((ls.length=0∨ls.length=8)∧v= .bool false∧H=[aj b [(.chan (some c))] 208,dR c 8 us s r,ej us ls 5])∨(ls.length≠0∧ls.length≠8∧v= .bool true∧∃un,H=[aj b [(.chan (some c))] 208,dR c 8 (us++[un]) (s+us.length+1) (r+us.length),ej us ls 5,dL un (ls.getD 0 []) 5]))):=by
 refine BD 41 Tryz.func101 rfl rfl rfl λw0 F hF=>sr λ_ J1=>PS ?_
 refine nx J1 (sr λ_ J2=>PS ?_);refine CE ti (rT b c s r us ls) ID ?_;change TL _ _ _ _ _ _ _ _ _ [aj b [(.chan (some c))] 208,dR c 8 (us) (s) (r),ej (us) (ls) 5];refine wW (p:=us.length=ls.length) (λw m=>(pM 2 rfl rfl m).1) (λhul=>PS ?_);refine nx J2 (aa λ_ J3=>sr λ_ J4=>P2 ?_);refine am ?_ ?_<;>intro h10;refine PS ?_
 iterate 7 refine UT ?_
 refine PS ?_;refine nx J4 (CY (sr λ_ J5=>PS ?_));refine nx J5 (ai (ae (WK [0,0,0] (aq rfl rfl ?_))));exact .inl ⟨by omega,rfl,rfl⟩;refine P4 ?_;refine FA 0 Bm sW ?_;refine LA 0 tM ?_;refine tq (PV.capChan 1 rfl tM rfl rfl rfl) ?_;refine PS ?_;refine am ?_ ?_<;>intro h18;refine PS ?_;refine nx J4 (CY (sr λ_ J6=>PS ?_));refine nx J6 (ai (ae (WK [0,0,0] (aq rfl rfl ?_))));exact .inl ⟨by omega,rfl,rfl⟩;refine PS ?_;refine nx J4 (CN (qx J3 (sr λ_ J7=>PS ?_)));refine nx J7 (aa λ_ J8=>sr λ_ J9=>P2 ?_);refine nx J9 (ap ?_)
 refine bB (α:=(Nat)) (λk=>k≤us.length) (λk=>[(0,(.pointer (some ⟨b,0,none⟩))),(2,(.bool false)),(4,(AQ k (us.getD 0 undef))),(20,(.int .i64 (((ls.length:Nat):Int)))),(21,(.int .i64 (((k:Nat):Int))))]) (λk=>[aj b [(.chan (some c))] 208,dR c 8 (us.drop k++us.take k) (s+k) (r+k),ej (us) (ls) 5]) (λk=>us.length-k) 0
     (aN _) SB
     (λ_ q=>by simpa using q) (λk hinv=>?_)
 obtain hk:=hinv;refine sr λ_ J10=>PS ?_
 refine am ?_ ?_<;>intro h22;have hku:k<us.length:=by omega
 refine nx J10 (aa λ_ J11=>CY (qx J11 (aa λ_ J12=>ap (sr λ_ J13=>P2 ?_))));refine nx J13 (aa λ_ J14=>wX (rW rfl (ab rfl) rfl rfl (jt rfl rfl) (rW rfl (ab rfl) rfl rfl (fN rfl rfl) (rW rfl (ab rfl) rfl rfl (a9 (r:=0) rfl Bm rfl sW rfl rfl) (rW rfl (ab rfl) rfl rfl (gR (v:=(.chan (some c))) rfl tM rfl rfl (RO 0) rfl) (TX.recv1 1 rfl (ab rfl) rfl rfl rfl tM JP rfl rfl rfl (Gi hku) (rW rfl (ab rfl) rfl rfl (MY rfl rfl) (IA (ac J14 (aa λ_ J15=>?_))))))))));refine sr λ_ J16=>P2 ?_
 refine am ?_ ?_<;>intro h30;refine nx J16 (CY (af (P2 ?_)));refine nx J15 (wX (rW rfl (ab rfl) rfl rfl (jt rfl rfl) (rW rfl (ab rfl) rfl rfl (fN rfl rfl) (rW rfl (ab rfl) rfl rfl (a9 (r:=0) rfl Bm rfl sW rfl rfl) (rW rfl (ab rfl) rfl rfl (gR (v:=(.chan (some c))) rfl tM rfl rfl (RO 0) rfl) (rW rfl (ab rfl) rfl rfl (jt rfl rfl) (TX.send1 1 rfl (ab rfl) rfl rfl rfl rfl rfl rfl (by simp only[ad,dO,bo];omega) (IA (ag (ac J12 (af ?_)))))))))));refine AD ?_;refine PS ?_;refine au ?_
 exact aJ ((k+1):(Nat)) (by omega) (by show us.length- (k+1)<us.length-k;omega)
   (aS (aS (bC rfl (by first|exact G4 (by omega) hku|exact G2 (by omega)) SB)))
   (λ_ q=>by
      rw[Am hku]at q
      exact q)
 refine nx J16 (CN (qx J15 (wX (rW rfl (ab rfl) rfl rfl (jt rfl rfl) (rW rfl (ab rfl) rfl rfl (fN rfl rfl) (rW rfl (ab rfl) rfl rfl (a9 (r:=0) rfl Bm rfl sW rfl rfl) (rW rfl (ab rfl) rfl rfl (gR (v:=(.chan (some c))) rfl tM rfl rfl (RO 0) rfl) (rW rfl (ab rfl) rfl rfl (jt rfl rfl) (TX.send1 1 rfl (ab rfl) rfl rfl rfl rfl rfl rfl (by simp only[ad,dO,bo];omega) (IA (ag ?_)))))))))));refine ac J12 (af (AD ?_));refine PS ?_;refine au ?_
 exact aJ ((k+1):(Nat)) (by omega) (by show us.length- (k+1)<us.length-k;omega)
   (aS (aS (bC rfl (by first|exact G4 (by omega) hku|exact G2 (by omega)) SB)))
   (λ_ q=>by
      rw[Am hku]at q
      exact q)
 obtain rfl:k=us.length:=by omega
 have hpos:0<ls.length:=by omega
 have hg:ls.getD 0 []=ls[0]:=by simp[List.getD_eq_getElem?_getD,hpos]
 refine cp (H':=[aj b [(.chan (some c))] 208,dR c 8 us (s+us.length) (r+us.length),ej us ls 5]) (λ_ q=>by simpa using q) (nx J10 (aa λ_ J17=>CN (aZ (aB (aB (bw (ac J8 (sr λ_ J18=>P2 ?_))))))))
 refine kl (ab rfl) rfl rfl rfl GF rfl (zn b c (s+us.length) (r+us.length) us (AQ us.length (us.getD 0 undef)) (ls.getD 0 []) (hb _ (hg▸bZ hpos)) (by omega)) (λ_ s=>s) (λg d s=>by
          rw[G3 (by omega),hg]
          exact Jf (sI 0 hpos rfl rfl g d s)) (λvR HR hR=>?_)
 obtain⟨rfl,un,rfl⟩:=hR;refine PS ?_;refine nx J18 (ai (WK [0,0,1,0] (aq rfl rfl ?_)));exact .inr ⟨by omega,by omega,rfl,un,rfl⟩
theorem wT(b:Nat)(ls:List (List UInt8))(h8:ls.length≤8)(hb: ∀x∈ls,x.length≤1000000):DT 101 #[.pointer (some ⟨b,0,none⟩)] T0 [gA 208 5 b ls] (RI (.bool (FX ls)) [gA 208 5 b (BK ls)]):=
 Leg.Does.pack (B:=[]) λq=>Leg.Does.fold (vX b q.1 q.2.2.1 q.2.2.2 q.2.1 ls h8 hb) λe H hp=>by
  cases e with
  |returned v=>
   unfold FX BK;rcases hp with⟨h,rfl,rfl⟩| ⟨h1,h2,rfl,un,rfl⟩
   · exact⟨[gA 208 5 b ls],λ_ s=>bi (p:=λq:Nat×List Value×Nat×Nat=>[aj b [.chan (some q.1)] 208,dR q.1 8 q.2.1 q.2.2.1 q.2.2.2,ej q.2.1 ls 5]) (H:=[]) q s,by rw[decide_eq_false (by omega)],by rw[if_neg (by omega)]⟩
   · refine⟨[gA 208 5 b (ls++[ls.getD 0 []])],λ_ s=>?_,by rw[decide_eq_true (by omega)],by rw[if_pos (by omega)];rfl⟩
     have s1:=yz 3 rfl rfl s;have s2:=az [2,2] rfl s1;have s3:=sR s2;exact bi (p:=λq:Nat×List Value×Nat×Nat=>[aj b [.chan (some q.1)] 208,dR q.1 8 q.2.1 q.2.2.1 q.2.2.2,ej q.2.1 (ls++[ls.getD 0 []]) 5]) (H:=[]) (q.1,q.2.1++[un],q.2.2.1+q.2.1.length+1,q.2.2.2+q.2.1.length) (az [1,1,0] rfl s3)
  |panicked c=>exact hp.elim
  |outgrown=>exact hp.elim
theorem rR(b:Nat)(ls:List (List UInt8))(h8:ls.length≤8)(hb: ∀x∈ls,x.length≤1000000):
 DT 102 #[(.pointer (some ⟨b,0,none⟩))] T0 [gA 208 5 b (ls)] (dw (λv H=>H=[gA 208 5 b (rc ls)])):=by
 refine BD 16 Tryz.func102 rfl rfl rfl λw0 F hF=>sr λ_ J1=>PS ?_
 refine nx J1 (sr λ_ J2=>PS ?_);refine CR IV (rS b ls) ID λvR HR hR=>?_
 rcases hR with⟨rfl,rfl,rfl⟩| ⟨u,f,lt,rfl,rfl,rfl⟩
 refine P4 ?_;refine PS ?_;refine nx J2 (sr λ_ J3=>P2 ?_)
 iterate 3 refine UF ?_
 refine P2 ?_;exact nx J3 (ai (WK [0] (aq rfl rfl rfl)));refine P4 ?_;refine PS ?_;refine nx J2 (sr λ_ J4=>P4 ?_);refine CF GF (tC b lt u f (hb f (fq ..))) ID (λg d s=>Jf (y5 0 rfl rfl g d s)) ?_;refine P2 ?_;refine nx J4 (ai (WK [0] (aq rfl rfl ?_)));exact congrArg (λq=>[gA 208 5 b q]) (if_pos (show lt.length<8 by have:=h8;rw[ax]at this;omega))
end Go.Proofs.YtjblgopghhgflaaGreat
end

section
namespace Leg
open Go
def RdG(S:World→Prop)(b:Nat){α:Type}(c:α→List Value)(T:TypeId):Prop:=∀w,S w→∃a,w.heap[b]?=some (.cells (c a).toArray T (0,0))
abbrev hid{α:Type}(b:Nat)(c:α→List Value)(T:TypeId)(R:α→List HP):HP:=pack (λa=>aj b (c a) T::R a)
section
variable {P:Program} {w0:World} {F:Hl} {n:Nat} {ops:Array Oper} {Q:QQ} {D:List Deferred} {L:List (Nat×Value)} {H:List HP} {o:Oper} {l:List Oper} {d:Nat} {S:World→Prop} {α:Type} {b j:Nat} {c c':α→List Value} {T:TypeId} {R R':α→List HP}
theorem Sat.packOpen{p:α→List HP}{w:World}(i:Nat)(s:Sat H F w)(hi:i<H.length)(hH:H.getD i (λ_=>True)=pack p): ∃a,Sat (p a++H.eraseIdx i) F w:=by
 obtain⟨h,d,e,x⟩:=s;have y:=eI i hi x;rw[hH]at y;obtain⟨a,z⟩:=ff (p:=p) (H:=H.eraseIdx i) (h:=h) y;exact⟨a,h,d,e,z⟩
theorem Sat.packShut{p:α→List HP}{w:World}(i:Nat)(hi:i<H.length)(a:α)(s:Sat (p a++H.eraseIdx i) F w):Sat (H.set i (pack p)) F w:=by
 obtain⟨h,d,e,x⟩:=s;exact⟨h,d,e,kb i hi (bi a x)⟩
theorem RdG.own(i:Nat)(hi:Nat.blt i H.length=true)(hH:H.getD i (λ_=>True)=hid b c T R):RdG (Sat H F) b c T:=λw s=>by
 obtain⟨a,t⟩:=s.packOpen i (lb hi) hH;exact⟨a,t.block 0 (by simp) rfl⟩
abbrev cN:= @RdG.own
theorem PV.load1G{t:TypeId}{x:Operand}{dt:TypeDesc}{v:Value}(ho:o.op= .load t x)(ht:P.underlying t=some dt)(hp:dZ dt=true)(hx:cQ L x=some (.pointer (some ⟨b,j,none⟩)))(hR:RdG S b c T)(hc: ∀a,(c a)[j]?=some v):PV P n D L S o v:=
 λa w f m=>by
  obtain⟨y,hy⟩:=hR w m;exact gR (S:=λw'=>w'=w) ho ht hp hx (λ_ e=>e▸hy) (hc y) a w f rfl
abbrev c8:= @PV.load1G
theorem PV.loadNG{t:TypeId}{x:Operand}{dt:TypeDesc}{m:Nat}{vs:List Value}(ho:o.op= .load t x)(ht:P.underlying t=some dt)(hp:dZ dt=false)(hm:(P.info? t).map (·.size)=some m)(hx:cQ L x=some (.pointer (some ⟨b,j,none⟩)))(hR:RdG S b c T)(hl:vs.length=m)(hc: ∀a,((c a).drop j).take m=vs):PV P n D L S o (.agg vs.toArray):=
 λa w f s=>by
  obtain⟨y,hy⟩:=hR w s;exact aK (S:=λw'=>w'=w) ho ht hp hm hx (λ_ e=>e▸hy) hl (hc y) a w f rfl
abbrev fI:= @PV.loadNG
theorem TL.storeG{i:Nat}{t:TypeId}{x y:Operand}{v:Value}{vs:List Value}(hw:Want n D ops o L)(ho:o.op= .store t x y)(hd:o.dst=none)
 (hx:cQ L x=some (.pointer (some ⟨b,j,none⟩))) (hy:cQ L y=some v) (hv:v.cells=vs.toArray) (hs:(P.info? t).map (·.size)=some vs.length) (h1: ∀u∈vs,u.oneCell'=true)
 (hi:Nat.blt i H.length=true) (hH:H.getD i (λ_=>True)=hid b c T R) (hl: ∀a,j+vs.length≤(c a).length) (hcs: ∀a,wr (c a) j vs=c' a)
 (h:TL P w0 F n ops Q l D L (H.set i (hid b c' T R))):TL P w0 F n ops Q (o::l) D L H:=
 TL.eff hw hd (λa w f _ m=>by
  obtain⟨q,m1⟩:=m.packOpen i (lb hi) hH;have hb:=m1.block 0 (by simp) rfl;refine⟨w.setRow b (wr (c q) j vs).toArray,by simp[execOp,ho,f.eval hx,f.eval hy,uZ hv hs h1 hb (hl q)],⟨rfl,rfl,rfl,by simp⟩,?_⟩;rw[hcs q]
  exact Sat.packShut (p:=λa=>aj b (c' a) T::R a) i (lb hi) q (m1.write 0 (by simp) rfl (setRow_heap w b (c q).toArray _ T _ hb) (λk hk=>setRow_other w b k _ hk))) h
abbrev gD:= @TL.storeG
theorem TL.store1G{i:Nat}{t:TypeId}{x y:Operand}{v:Value}(hw:Want n D ops o L)(ho:o.op= .store t x y)(hd:o.dst=none)
 (hx:cQ L x=some (.pointer (some ⟨b,j,none⟩))) (hy:cQ L y=some v) (h1:v.oneCell'=true) (hs:(P.info? t).map (·.size)=some 1)
 (hi:Nat.blt i H.length=true) (hH:H.getD i (λ_=>True)=hid b c T R) (hl: ∀a,j< (c a).length) (hcs: ∀a,(c a).set j v=c' a)
 (h:TL P w0 F n ops Q l D L (H.set i (hid b c' T R))):TL P w0 F n ops Q (o::l) D L H:=
 gD (vs:=[v]) hw ho hd hx hy (by cases v<;>simp[Value.cells,Value.oneCell']at h1 ⊢) hs (by simpa using h1) hi hH (λa=>by have:=hl a;simp;omega)
  (λa=>by rw[←hcs a,wr,mY,if_pos (hl a)];simp) h
theorem Ew{p p' a b c d:HP}{h:Hl}(e: ∀h,p h→p' h)(s:bH (a::b::c::d::p::H) h):bH (a::b::c::d::p'::H) h:=
 cA s (λ_ x=>x) λ_ s=>cA s (λ_ x=>x) λ_ s=>cA s (λ_ x=>x) λ_ s=>cA s (λ_ x=>x) λ_ s=>cA s e λ_ x=>x
theorem Does.hid{f:FuncId}{args:Array Value}{A:List HP}{q:Value→Prop}(h: ∀a,Does P f args (λ_=>True) (aj b (c a) T::A) (dw λv H=>q v∧H=aj b (c' a) T::A)):Does P f args (λ_=>True) (Leg.hid b c T R::A) (dw λv H=>q v∧H=Leg.hid b c' T R::A):=
 Does.pack λa=>Does.withinR (B:=R a) (h a) (λ_ _ _ _=>trivial) (λ_ s=>dX (List.Perm.cons (aj b (c a) T) (List.perm_append_comm (l₁:=R a) (l₂:=A))) s) λv H hp=>by
  obtain⟨h1,rfl⟩:=hp;exact⟨_,λ_ s=>bi (p:=λa=>aj b (c' a) T::R a) a (dX (List.Perm.cons (aj b (c' a) T) (List.perm_append_comm (l₁:=A) (l₂:=R a))) s),h1,rfl⟩
end
open Api
variable {P:Program} {w0:World} {F:Hl} {n:Nat} {ops:Array Oper} {Q:QQ} {D:List Deferred} {L:List (Nat×Value)} {H:List HP} {d:Nat} {o:Oper} {l:List Oper}
section
variable {A:Type} {b:Nat} {c:A→List Value} {T:TypeId} {R:A→List HP}
theorem LG{t:TypeId}{x:Operand}{dt:TypeDesc}{j:Nat}(k:Nat)(ht:P.underlying t=some dt)(v:Value)(h:TL P w0 F n ops Q l D ((d,v)::L) H)(hw:Want n D ops o L:=by first|exact ab rfl|exact ca rfl rfl rfl)(hd:o.dst=some d:=by exact rfl)(hn:Nat.blt d n=true:=by exact rfl)(ho:o.op= .load t x:=by exact rfl)(hp:dZ dt=true:=by exact rfl)(hx:cQ L x=some (.pointer (some ⟨b,j,none⟩)):=by exact rfl)(hk:Nat.blt k H.length=true:=by exact rfl)(hH:H.getD k (λ_=>True)=hid b c T R:=by exact rfl)(hc: ∀a,(c a)[j]?=some v):TL P w0 F n ops Q (o::l) D L H:=li hw hd hn (c8 ho ht hp hx (cN k hk hH) hc) h
theorem LZ{α:Type}{f:α→List Int}{t:TypeId}{x:Operand}{dt:TypeDesc}{j m:Nat}(k:Nat)(ht:P.underlying t=some dt)(hs:(P.info? t).map (·.size)=some m)(hf: ∀x,(ints (f x)).length=m)(y:α)(h:TL P w0 F n ops Q l D ((d, .agg (ints (f y)).toArray)::L) H)(hw:Want n D ops o L:=by first|exact ab rfl|exact ca rfl rfl rfl)(hd:o.dst=some d:=by exact rfl)(hn:Nat.blt d n=true:=by exact rfl)(ho:o.op= .load t x:=by exact rfl)(hp:dZ dt=false:=by exact rfl)(hx:cQ L x=some (.pointer (some ⟨b,j,none⟩)):=by exact rfl)(hk:Nat.blt k H.length=true:=by exact rfl)(hH:H.getD k (λ_=>True)=hid b c T R:=by exact rfl)(hc: ∀a,((c a).drop j).take m=ints (f y)):TL P w0 F n ops Q (o::l) D L H:=li hw hd hn (fI ho ht hp hs hx (cN k hk hH) (hf y) hc) h
theorem SK{o:Oper}{l:List Oper}{t:TypeId}{x y:Operand}{j m:Nat}{v:Value}{c':A→List Value}(k:Nat)(hs:(P.info? t).map (·.size)=some 1)(hl: ∀a,(c a).length=m)(h:TL P w0 F n ops Q l D L (H.set k (hid b c' T R)))(hw:Want n D ops o L:=by first|exact ab rfl|exact ca rfl rfl rfl)(hd:o.dst=none:=by exact rfl)(ho:o.op= .store t x y:=by exact rfl)(hx:cQ L x=some (.pointer (some ⟨b,j,none⟩)):=by exact rfl)(hy:cQ L y=some v:=by exact rfl)(h1:v.oneCell'=true:=by exact rfl)(hk:Nat.blt k H.length=true:=by exact rfl)(hH:H.getD k (λ_=>True)=hid b c T R:=by exact rfl)(hj:Nat.blt j m=true:=by first|exact rfl|exact Nat.ble_eq_true_of_le (by omega))(hc: ∀a,(c a).set j v=c' a):TL P w0 F n ops Q (o::l) D L H:=TL.store1G hw ho hd hx hy h1 hs hk hH (λa=>(hl a)▸lb hj) hc h
end
end Leg
end

section
namespace Go.Proofs.YtjblgopghhgflaaGreat
open Go Leg Codec Api Dsk Wal
structure Env(δ:Type) extends Dk δ where
 T:Nat
 ov:Value
 sf:Nat
 E:δ→List SaidT→HP
 lg:Nat→δ→HP
 me : wo Tryz.prog T ov "Send" sf
 nm:Named Tryz.prog sf
 say: ∀(e:δ) (l:List SaidT) (to':Int) (m:MsgT),ok e→Leg.Does Tryz.prog sf #[ov, .int .i64 to', .agg (ints m.flat).toArray] (λ_=>True) [E e l] (dw (λ_ H=>H=[E e (if dn e then l else l++[SaidT.mk to' m])]))
 put: ∀(g:Nat) (x:Value) (bs:List UInt8) (e:δ) (l:List SaidT),ok e→bs.length≤3000→Leg.Does Tryz.prog 166 #[.pointer (some ⟨g,0,none⟩),x] (IsW x bs) [lg g e,E e l] (dw (λv H=>v= .int .i64 (pt e bs).2∧H=[lg g (pt e bs).1,E (pt e bs).1 l]))
def Df(vo:Value):Option VoteT→HP
 |none=>λ_=>vo= .pointer none
 |some vt=>λh=>∃b,vo= .pointer (some ⟨b,0,none⟩)∧aj b (VoteT.cells vt) 227 h
abbrev cD{δ:Type}(V:Env δ)(r:Nat)(s:MS δ):HP:=hid r (λa:Adr=>RepT.cells (s.rep a)) 123 (λa=>[V.lg a.lg s.e,own a.rs s.replies.length (ints (s.replies.flatMap ReplyT.flat)) 37 3,Df a.vo s.vote,V.E s.e s.o])
abbrev uh{δ:Type}(V:Env δ)(r:Nat)(s:MS δ)(vo:Value):HP:=hid r (λa:Nat×Value=>RepT.cells (s.rep ⟨a.1,vo,a.2⟩)) 123 (λa=>[V.lg a.1 s.e,own a.2 s.replies.length (ints (s.replies.flatMap ReplyT.flat)) 37 3,V.E s.e s.o])
theorem jo{δ:Type}{V:Env δ}{r:Nat}{f:MS δ×Int}{X:MS δ}{y:Int}(e:f=(X,y)):Value.int .i64 y= .int .i64 f.2∧[cD V r X]=[cD V r f.1]:=by
 subst e;exact⟨rfl,rfl⟩
theorem EG{δ:Type}(V:Env δ)(r:Nat)(s:MS δ)(to':Int)(m:MsgT)[hs:OkR V.toDk s]:DT V.sf #[V.ov, .int .i64 to', .agg (ints m.flat).toArray] T0 [cD V r s] (dw (λ_ H=>H=[cD V r (B5 V.toDk s to' m)])):=
 Leg.Does.pack λa=>Leg.Does.withinR (V.say s.e s.o to' m hs.e) (λ_ _ _ _=>trivial) (λ_ q=>az [4] rfl q) λv H hp=>by
  subst hp;refine⟨_,λ_ q=>?_,rfl⟩;have q2:=az [1,1,1,1,0] rfl q;exact bi (p:=λa:Adr=>[aj r (RepT.cells (s.rep a)) 123,V.lg a.lg s.e,own a.rs s.replies.length (ints (s.replies.flatMap ReplyT.flat)) 37 3,Df a.vo s.vote,V.E s.e (if V.dn s.e then s.o else s.o++[SaidT.mk to' m])]) a q2
theorem fS{δ:Type}(V:Env δ)(r:Nat)(s:MS δ)(to':Int)(m:MsgT)(f:MS δ→MS δ)(hT:to'=s.id→DT 105 #[.pointer (some ⟨r,0,none⟩), .iface V.T V.ov, .int .i64 s.id, .agg (ints m.flat).toArray] T0 [cD V r s] (dw (λ_ H=>H=[cD V r (f s)])))[OkR V.toDk s]:
 DT 149 #[(.pointer (some ⟨r,0,none⟩)),(.iface V.T V.ov),(.int .i64 (to')),(.agg (ints m.flat).toArray)] T0 [cD V r s] (dw (λ_ H=>H=[cD V r (mH V.toDk f s to' m)])):=by
 refine Leg.Does.body (vs:=[(.pointer (some ⟨r,0,none⟩)),(.iface V.T V.ov),(.int .i64 (to')),(.agg (ints m.flat).toArray)]) (n:=28) Tryz.func149 rfl rfl rfl (λw0 F hF=>?_);refine sr λ_ J1=>?_
 refine TL.box (ab rfl) rfl rfl rfl rfl (λb7=>?_);change TL _ _ _ _ _ _ _ _ _ [aj b7 (ints m.flat) 178,cD V r s];refine nx J1 ?_;refine aa λ_ J2=>?_
 refine sr λ_ J3=>?_
 refine mv ?_;refine mv ?_;refine tp (fN rfl rfl) ?_;refine tp (a9 (r:=0) rfl bg rfl aO rfl rfl) ?_;refine tp (c8 (v:=(.int .i64 (s.id))) rfl Y3 rfl rfl (cN 1 rfl rfl) (λa_=>(cB (s.rep a_) rfl))) ?_;refine tp (LJ rfl rfl rfl) ?_;refine am (λh13=>?_) (λh13=>?_);refine nx J3 ?_;refine mC rfl ?_;refine aa λ_ J4=>?_
 refine qL (λw=>Frm F w∧w.heap[b7]?=some (.cells (ints m.flat).toArray 178 (0,0))∧True) bf rfl (λ_ s=>⟨e5 s,s.block 0 (lb rfl) rfl,trivial⟩) ?_;refine ta 0 rfl (jt rfl rfl) ?_;refine ta 1 rfl (jt rfl rfl) ?_;refine ta 2 rfl (jt rfl rfl) ?_;refine ta 3 rfl (fN rfl rfl) ?_;refine ta 4 rfl (a9 (r:=0) rfl bg rfl aO rfl rfl) ?_;refine ta 6 rfl (aK (vs:=ints m.flat) rfl a8 rfl bX rfl (λ_ h=>h.2.1) (aG m) (bk (aG m))) ?_;refine cJ [5] (by kernel_rfl) rfl ?_;refine aF rfl ?_ ?_;refine tp (c8 (v:=(.int .i64 (s.id))) rfl Y3 rfl rfl (cN 1 rfl rfl) (λa_=>(cB (s.rep a_) rfl))) ?_;refine au ?_;refine tG (λ_ s=>⟨e5 s,s.block 0 (lb rfl) rfl,trivial⟩) ?_;refine cJ [7] (by kernel_rfl) rfl ?_;refine aF rfl ?_ ?_;refine kl (ab rfl) rfl rfl rfl I3 rfl ((by have h:=hT h13;exact h)) (λ_ s=>az [1] rfl s) (λ_ _ _=>trivial) (λvR HR hR=>?_);obtain rfl:=hR;refine au ?_;refine tG (λ_ s=>⟨e5 s,s.block 1 (lb rfl) rfl,trivial⟩) ?_;refine TD.done (by kernel_rfl) ?_;refine ac J4 ?_;refine ai ?_;refine ae ?_;refine aE (dE _) (λ_ s=>ak [0] rfl s) ?_;refine dy rfl ?_;exact(congrArg (λq=>[cD V r q]) (if_pos h13)).symm;exact bD;exact bD;refine nx J3 ?_;refine Ea rfl ?_;refine aQ ?_;refine ac J2 ?_;refine sr λ_ J5=>?_
 refine mv ?_;refine tp (PV.ifaceNotNil rfl Tryz.underlying168 rfl) ?_;refine nx J5 ?_;refine mC rfl ?_;refine af ?_;refine mv ?_;refine mv ?_;refine tp (aK (vs:=ints m.flat) rfl a8 rfl bX rfl (eR 0 rfl rfl) (aG m) (bk (aG m))) ?_;refine TL.callI (ab rfl) rfl rfl rfl rfl V.me V.nm rfl (EG V r s to' m) (λ_ s=>az [1] rfl s) (λ_ _ _=>trivial) (λvR HR hR=>?_);obtain rfl:=hR;refine au ?_;refine aE (dE _) (λ_ s=>ak [0] rfl s) ?_;refine bu rfl ?_;exact(congrArg (λq=>[cD V r q]) (if_neg h13)).symm
theorem iY{δ:Type}(V:Env δ)(r:Nat)(s:MS δ)(to':Int)(m:MsgT)(hto:to'≠s.id)[OkR V.toDk s]:DT 149 #[.pointer (some ⟨r,0,none⟩), .iface V.T V.ov, .int .i64 to', .agg (ints m.flat).toArray] T0 [cD V r s] (dw (λ_ H=>H=[cD V r (it V.toDk s [⟨to',m⟩])])):=by
 have h:=fS V r s to' m id (λe=>absurd e hto)
 rwa [show mH V.toDk id s to' m=it V.toDk s [⟨to',m⟩]from if_neg hto]at h
theorem nb{δ:Type}(V:Env δ)(r:Nat)(s:MS δ)(l:List SaidT)(to':Int)(m:MsgT)(hto:to'≠s.id)[OkR V.toDk s]:DT 149 #[.pointer (some ⟨r,0,none⟩), .iface V.T V.ov, .int .i64 to', .agg (ints m.flat).toArray] T0 [cD V r (it V.toDk s l)] (dw (λ_ H=>H=[cD V r (it V.toDk s (l++[⟨to',m⟩]))])):=by
 have h:=iY V r (it V.toDk s l) to' m hto
 rwa [Gc]at h
theorem MQ{δ:Type}{V:Env δ}{r:Nat}{a b:MS δ}(h:a=b):[cD V r a]=[cD V r b]:=by rw[h]
theorem mQ{δ:Type}(V:Env δ)(r:Nat)(s:MS δ)[OkR V.toDk s]:
 DT 106 #[(.pointer (some ⟨r,0,none⟩)),(.iface V.T V.ov)] T0 [cD V r s] (dw (λ_ H=>H=[cD V r (fe V.toDk s)])):=by
 refine BD 40 Tryz.func106 rfl rfl rfl λw0 F hF=>?_
 have hid:cH s.id=true:=OkR.id;have hid2:0≤s.id∧s.id<5:=of_decide_eq_true hid;refine aa λ_ J1=>DB bf (cN 0 rfl rfl) ?_
 refine PD 0 ?_;refine PD 1 ?_;refine FD 2 0 bg aO ?_;refine ta 3 rfl (c8 (v:=(.int .i64 (s.id))) rfl Y3 rfl rfl (λ_ h=>h.2.1) (λa_=>(cB _ rfl))) ?_;refine PD 4 ?_;refine PD 5 ?_;refine FD 6 9 bg ba ?_;refine ta 7 rfl (fI (vs:=ints s.own.flat) rfl dS rfl ba rfl (λ_ h=>h.2.1) (ah s.own) (λa_=>(wY (s.rep a_) 0 rfl (by decide) (bk (ah ((s.rep a_).own)))))) ?_;refine ta 8 rfl (kw MsgT.zero (MsgT.mk 0 s.id s.own 0 0 BallotT.zero BallotT.zero ChangeT.zero ViewT.zero) [(0,[Value.int .i64 0]),(1,[Value.int .i64 s.id]),(2,ints s.own.flat)] a8 bl (g:=MsgT.sg)) ?_;refine AL 9 ?_;refine XZ lN (ints MsgT.zero.flat) λb4=>?_
 refine EN (AL 10 ?_);refine SW 0 bX aG ?_;refine EN (DN (ac J1 (sr λ_ J2=>P2 ?_)));refine FA 0 bg aO ?_;refine LG 1 Y3 (.int .i64 (s.id)) ?_ (hc:=by exact λa_=>(cB _ rfl));refine CR Gz (pG s.id hid) ID λvR HR hR=>?_
 obtain⟨_,rfl,rfl⟩:=hR;revert vR;intro uw;refine fY 0 rfl rfl (λhluw _=>fG 0 rfl rfl (by omega) (λgw capw hvw hcapw=>tp (cu rfl jT rfl hluw) ?_));refine PS ?_;refine nx J2 (ap (qS 2 (sr λ_ J3=>PS ?_)));refine nx J3 (aa λ_ J4=>CY (qx J4 (aa λ_ J5=>ap (sr λ_ J6=>tp (bv (r:=0) hvw rfl jT aO rfl rfl (by omega) (by omega) rfl) ?_))));refine tp (cV (v:=(.int .i64 (((s.id+1)%5)))) rfl Y3 rfl rfl (dT 0 rfl hvw rfl) rfl) ?_;refine PS ?_;refine nx J6 (sr λ_ J7=>P2 ?_);refine FA 1939 bg aO ?_;refine LG 2 Y3 (.int .i64 (s.kept)) ?_ (hc:=by exact λa_=>(qN _ rfl));refine PS ?_;refine tp (lm (r:=(s.kept.fdiv (2^min (((s.id+1)%5)).toNat IntKind.i64.bits))) rfl rfl rfl (by omega) rfl) ?_;refine tp (tR (r:=((s.kept.fdiv (2^min (((s.id+1)%5)).toNat IntKind.i64.bits))%2)) rfl rfl rfl (mask (k:=1) (by decide) _)) ?_;refine PS ?_;refine am ?_ ?_<;>intro h33;refine nx J7 (CY (af (P3 ?_)));refine LW 1 a8 bX aG ?_;refine CZ iK (iY V r s ((s.id+1)%5) (MsgT.mk 0 s.id s.own 0 0 BallotT.zero BallotT.zero ChangeT.zero ViewT.zero) (by omega)) (SM [2]) λvR=>?_
 refine au (ag (ac J5 (af (tp (cw (r:=1) rfl rfl rfl (by decide)) ?_))));refine PS ?_;refine au (ef (sr λ_ J8=>PS ?_));refine nx J8 (aa λ_ J9=>CY (qx J9 (aa λ_ J10=>ap (sr λ_ J11=>tp (bv (r:=1) hvw rfl jT aO rfl rfl (by omega) (by omega) rfl) ?_))));refine tp (cV (v:=(.int .i64 (((s.id+2)%5)))) rfl Y3 rfl rfl (dT 1 rfl hvw rfl) rfl) ?_;refine PS ?_;refine nx J11 (sr λ_ J12=>P2 ?_);refine FA 1939 bg aO ?_;refine LG 0 Y3 (.int .i64 (s.kept)) ?_ (hc:=by exact λa_=>(qN _ rfl));refine PS ?_;refine tp (lm (r:=(s.kept.fdiv (2^min (((s.id+2)%5)).toNat IntKind.i64.bits))) rfl rfl rfl (by omega) rfl) ?_;refine tp (tR (r:=((s.kept.fdiv (2^min (((s.id+2)%5)).toNat IntKind.i64.bits))%2)) rfl rfl rfl (mask (k:=1) (by decide) _)) ?_;refine PS ?_;refine am ?_ ?_<;>intro h33;refine nx J12 (CY (af (P3 ?_)));refine LW 2 a8 bX aG ?_;refine CZ iK (nb V r s ([SaidT.mk ((s.id+1)%5) (MsgT.mk 0 s.id s.own 0 0 BallotT.zero BallotT.zero ChangeT.zero ViewT.zero)]) ((s.id+2)%5) (MsgT.mk 0 s.id s.own 0 0 BallotT.zero BallotT.zero ChangeT.zero ViewT.zero) (by omega)) ID λvR=>?_
 refine au (ag (ac J10 (af (tp (cw (r:=2) rfl rfl rfl (by decide)) ?_))));refine PS ?_;refine au (ef (sr λ_ J13=>PS ?_));refine nx J13 (aa λ_ J14=>CN (aZ (aB (aB (bw (WK [0] (bu rfl ?_)))))));exact MQ (by rw[fe,show oQ (s.rep .nil)=[SaidT.mk ((s.id+1)%5) (MsgT.mk 0 s.id s.own 0 0 BallotT.zero BallotT.zero ChangeT.zero ViewT.zero)]++[SaidT.mk ((s.id+2)%5) (MsgT.mk 0 s.id s.own 0 0 BallotT.zero BallotT.zero ChangeT.zero ViewT.zero)]by rw[oQ,gE,if_pos hid];simp[zq,u7,MsgT.zero,Adr.nil, *]]);refine nx J12 (CN (aQ (ag (ac J10 (af (tp (cw (r:=2) rfl rfl rfl (by decide)) ?_))))));refine PS ?_;refine au (ef (sr λ_ J15=>PS ?_));refine nx J15 (aa λ_ J16=>CN (aZ (aB (aB (bw (WK [0] (bu rfl ?_)))))));exact MQ (by rw[fe,show oQ (s.rep .nil)=[SaidT.mk ((s.id+1)%5) (MsgT.mk 0 s.id s.own 0 0 BallotT.zero BallotT.zero ChangeT.zero ViewT.zero)]by rw[oQ,gE,if_pos hid];simp[zq,u7,MsgT.zero,Adr.nil, *]]);refine nx J7 (CN (aQ (ag (ac J5 (af (tp (cw (r:=1) rfl rfl rfl (by decide)) ?_))))));refine PS ?_;refine au (ef (sr λ_ J17=>PS ?_));refine nx J17 (aa λ_ J18=>CY (qx J18 (aa λ_ J19=>ap (sr λ_ J20=>tp (bv (r:=1) hvw rfl jT aO rfl rfl (by omega) (by omega) rfl) ?_))));refine tp (cV (v:=(.int .i64 (((s.id+2)%5)))) rfl Y3 rfl rfl (dT 0 rfl hvw rfl) rfl) ?_;refine PS ?_;refine nx J20 (sr λ_ J21=>P2 ?_);refine FA 1939 bg aO ?_;refine LG 2 Y3 (.int .i64 (s.kept)) ?_ (hc:=by exact λa_=>(qN _ rfl))
 refine PS ?_;refine tp (lm (r:=(s.kept.fdiv (2^min (((s.id+2)%5)).toNat IntKind.i64.bits))) rfl rfl rfl (by omega) rfl) ?_;refine tp (tR (r:=((s.kept.fdiv (2^min (((s.id+2)%5)).toNat IntKind.i64.bits))%2)) rfl rfl rfl (mask (k:=1) (by decide) _)) ?_;refine PS ?_;refine am ?_ ?_<;>intro h33;refine nx J21 (CY (af (P3 ?_)));refine LW 1 a8 bX aG ?_;refine CZ iK (iY V r s ((s.id+2)%5) (MsgT.mk 0 s.id s.own 0 0 BallotT.zero BallotT.zero ChangeT.zero ViewT.zero) (by omega)) (SM [2]) λvR=>?_
 refine au (ag (ac J19 (af (tp (cw (r:=2) rfl rfl rfl (by decide)) ?_))));refine PS ?_;refine au (ef (sr λ_ J22=>PS ?_));refine nx J22 (aa λ_ J23=>CN (aZ (aB (aB (bw (WK [0] (bu rfl ?_)))))));exact MQ (by rw[fe,show oQ (s.rep .nil)=[SaidT.mk ((s.id+2)%5) (MsgT.mk 0 s.id s.own 0 0 BallotT.zero BallotT.zero ChangeT.zero ViewT.zero)]by rw[oQ,gE,if_pos hid];simp[zq,u7,MsgT.zero,Adr.nil, *]]);refine nx J21 (CN (aQ (ag (ac J19 (af (tp (cw (r:=2) rfl rfl rfl (by decide)) ?_))))));refine PS ?_;refine au (ef (sr λ_ J24=>PS ?_));refine nx J24 (aa λ_ J25=>CN (aZ (aB (aB (bw (WK [2] (bu rfl ?_)))))));exact MQ (by rw[fe,show oQ (s.rep .nil)=[]by rw[oQ,gE,if_pos hid];simp[zq,u7,MsgT.zero,Adr.nil, *]];exact(oZ _ _).symm)
theorem ma{δ:Type}(V:Env δ)(r:Nat)(s:MS δ)(y:RowT)[OkR V.toDk s]:
 DT 110 #[(.pointer (some ⟨r,0,none⟩)),(.iface V.T V.ov),(.agg (ints y.flat).toArray)] T0 [cD V r s] (dw (λ_ H=>H=[cD V r (lZ V.toDk s y)])):=by
 refine BD 27 Tryz.func110 rfl rfl rfl λw0 F hF=>sr λ_ J1=>XY (ints y.flat) λb5=>?_
 refine nx J1 (sr λ_ J2=>PS ?_);refine nx J2 (ap ?_)
 refine bB (α:=(Nat)) (λk=>k≤5) (λk=>[(0,(.pointer (some ⟨r,0,none⟩))),(1,(.iface V.T V.ov)),(5,(.pointer (some ⟨b5,0,none⟩))),(7,(.int .i64 (((k:Nat):Int))))]) (λk=>[aj b5 (ints y.flat) 60,cD V r (it V.toDk s (ni s.id (rC s.id y) (λ_=>true) k))]) (λk=>5-k) 0
  (aN _) SB
  (λ_ q=>by
  rw[show ni s.id (rC s.id y) (λ_=>true) 0=[]from rfl,oZ]
  exact q) (λk hinv=>?_)
 obtain hk:=hinv;refine sr λ_ J3=>PS ?_
 refine am ?_ ?_<;>intro h8;refine nx J3 (aa λ_ J4=>CY (qx J4 (aa λ_ J5=>ap (sr λ_ J6=>P2 ?_))));refine nx J6 (sr λ_ J7=>P3 ?_);refine FA 0 bg aO ?_;refine LG 1 Y3 (.int .i64 (s.id)) ?_ (hc:=by exact λa_=>(cB _ rfl));refine PS ?_;refine am ?_ ?_<;>intro h15;refine nx J7 (CY (DC bf (cN 1 rfl rfl) (BL 0) ?_));refine PD 0 ?_;refine PD 1 ?_;refine PD 2 ?_;refine PD 3 ?_;refine PD 4 ?_;refine FD 5 0 bg aO ?_;refine ta 6 rfl (c8 (v:=(.int .i64 (s.id))) rfl Y3 rfl rfl (λ_ h=>h.2.1) (λa_=>(cB _ rfl))) ?_;refine LY 7 dS ba ah ?_;refine ta 8 rfl (kw MsgT.zero (MsgT.mk 2 s.id y 0 0 BallotT.zero BallotT.zero ChangeT.zero ViewT.zero) [(0,[Value.int .i64 2]),(1,[Value.int .i64 s.id]),(2,ints y.flat)] a8 bl (g:=MsgT.sg)) ?_;refine AL 9 ?_;refine CZ iK (nb V r s (ni s.id (rC s.id y) (λ_=>true) k) ((k:Nat):Int) (MsgT.mk 2 s.id y 0 0 BallotT.zero BallotT.zero ChangeT.zero ViewT.zero) h15) (SM [1]) λvR=>?_
 refine EN (DN (ag (ac J5 (af (AD ?_)))));refine PS ?_;refine au ?_
 exact aJ ((k+1):(Nat)) (by omega) (by show 5- (k+1)<5-k;omega)
  SB
  (λ_ q=>by
   rw[ie,if_pos ⟨h15,rfl⟩]
   exact ak [1,0] rfl q)
 refine nx J7 (CN (aQ (ag (ac J5 (af (AD ?_))))));refine PS ?_;refine au ?_
 exact aJ ((k+1):(Nat)) (by omega) (by show 5- (k+1)<5-k;omega)
  SB
  (λ_ q=>by
   rw[ie,if_neg (by omega)];rw[aM]
   exact ak [0,0] rfl q)
 refine nx J3 (aa λ_ J8=>CN (aZ (aB (aB (bw (WK [1] (bu rfl ?_)))))));obtain rfl:k=5:=by omega
 exact rfl
theorem l9{δ:Type}(V:Env δ)(r:Nat)(s:MS δ)(v:ViewT)[OkR V.toDk s]:
 DT 109 #[(.pointer (some ⟨r,0,none⟩)),(.iface V.T V.ov),(.agg (ints v.flat).toArray)] T0 [cD V r s] (dw (λ_ H=>H=[cD V r (m7 V.toDk s v)])):=by
 refine BD 23 Tryz.func109 rfl rfl rfl λw0 F hF=>sr λ_ J1=>XY (ints v.flat) λb5=>?_
 refine nx J1 (sr λ_ J2=>PS ?_);refine nx J2 (ap ?_)
 refine bB (α:=(Nat)) (λk=>k≤5) (λk=>[(0,(.pointer (some ⟨r,0,none⟩))),(1,(.iface V.T V.ov)),(5,(.pointer (some ⟨b5,0,none⟩))),(7,(.int .i64 (((k:Nat):Int))))]) (λk=>[aj b5 (ints v.flat) 44,cD V r (it V.toDk s (ni s.id (jK v) (λ_=>true) k))]) (λk=>5-k) 0
  (aN _) SB
  (λ_ q=>by
  rw[show ni s.id (jK v) (λ_=>true) 0=[]from rfl,oZ]
  exact q) (λk hinv=>?_)
 obtain hk:=hinv;refine sr λ_ J3=>PS ?_
 refine am ?_ ?_<;>intro h8;refine nx J3 (aa λ_ J4=>CY (qx J4 (aa λ_ J5=>ap (sr λ_ J6=>P2 ?_))));refine nx J6 (sr λ_ J7=>P3 ?_);refine FA 0 bg aO ?_;refine LG 1 Y3 (.int .i64 (s.id)) ?_ (hc:=by exact λa_=>(cB _ rfl));refine PS ?_;refine am ?_ ?_<;>intro h15;refine nx J7 (CY (af (P3 ?_)));refine LW 0 eL be ao ?_;refine tp (kw MsgT.zero (MsgT.mk 7 0 RowT.zero 0 0 BallotT.zero BallotT.zero ChangeT.zero v) [(0,[Value.int .i64 7]),(8,ints v.flat)] a8 bl (g:=MsgT.sg)) ?_;refine CZ iK (nb V r s (ni s.id (jK v) (λ_=>true) k) ((k:Nat):Int) (MsgT.mk 7 0 RowT.zero 0 0 BallotT.zero BallotT.zero ChangeT.zero v) h15) (SM [1]) λvR=>?_
 refine au (ag (ac J5 (af (AD ?_))));refine PS ?_;refine au ?_
 exact aJ ((k+1):(Nat)) (by omega) (by show 5- (k+1)<5-k;omega)
  SB
  (λ_ q=>by
   rw[ie,if_pos ⟨h15,rfl⟩]
   exact ak [1,0] rfl q)
 refine nx J7 (CN (aQ (ag (ac J5 (af (AD ?_))))));refine PS ?_;refine au ?_
 exact aJ ((k+1):(Nat)) (by omega) (by show 5- (k+1)<5-k;omega)
  SB
  (λ_ q=>by
   rw[ie,if_neg (by omega)];rw[aM]
   exact ak [0,0] rfl q)
 refine nx J3 (aa λ_ J8=>CN (aZ (aB (aB (bw (WK [1] (bu rfl ?_)))))));obtain rfl:k=5:=by omega
 exact rfl
theorem EV{δ:Type}(V:Env δ)(r lg:Nat)(x:RepT)(m:RecT)(e:δ)(l:List SaidT)(hlog:x.log= .pointer (some ⟨lg,0,none⟩))(hok:V.ok e):
 DT 136 #[(.pointer (some ⟨r,0,none⟩)),(.agg (ints m.flat).toArray)] T0 [aj r (RepT.cells x) 123,V.lg lg e,V.E e l] (RI (.int .i64 (V.pt e (jB m)).2) [aj r (RepT.cells x) 123,V.lg lg (V.pt e (jB m)).1,V.E (V.pt e (jB m)).1 l]):=by
 refine BD 12 Tryz.func136 rfl rfl rfl λw0 F hF=>sr λ_ J1=>XY (ints m.flat) λb3=>?_
 refine PS ?_;refine nx J1 (aa λ_ J2=>D2 1 0 bf ?_);refine PD 0 ?_;refine PD 1 ?_;refine FD 2 1 bg Kf ?_;refine LX 3 Tryz.underlying114 (.pointer (some ⟨lg,0,none⟩)) ?_ (hc:=by exact(RepT.at_log x rfl).trans (congrArg some hlog));refine LY 4 iy iE bj ?_;refine AL 5 ?_;refine CR MA (Ap m) ID λvR HR hR=>?_
 obtain⟨_,rfl,rfl⟩:=hR;revert vR;intro ue;refine EN (AL 6 ?_);refine CF KZ (V.put lg ue (jB m) e l hok (A1 m)) (SM [3,3]) (λg d s=>Jf (tW 0 rfl rfl g d s)) ?_;refine EN (PD 7 ?_);exact DN (ac J2 (ai (WK [4,0,0] (aq rfl rfl ⟨rfl,rfl⟩))))
theorem kB{δ:Type}(V:Env δ)(r:Nat)(s:MS δ)(m:RecT)[hs:OkR V.toDk s]:DT 136 #[.pointer (some ⟨r,0,none⟩), .agg (ints m.flat).toArray] T0 [cD V r s] (RI (.int .i64 (rz V.toDk s m)) [cD V r (dY V.toDk s m)]):=
 Leg.Does.pack λa=>Leg.Does.withinR (EV V r a.lg (s.rep a) m s.e s.o rfl hs.e) (λ_ _ _ _=>trivial) (λ_ q=>az [0,0,2] rfl q) λv H hp=>by
  obtain⟨h1,rfl⟩:=hp;exact⟨_,λ_ q=>bi (p:=λa:Adr=>[aj r (RepT.cells ((dY V.toDk s m).rep a)) 123,V.lg a.lg (dY V.toDk s m).e,own a.rs (dY V.toDk s m).replies.length (ints ((dY V.toDk s m).replies.flatMap ReplyT.flat)) 37 3,Df a.vo (dY V.toDk s m).vote,V.E (dY V.toDk s m).e (dY V.toDk s m).o]) a (az [0,0,1,1,0] rfl q),h1,rfl⟩
theorem eM{δ:Type}(V:Env δ)(r:Nat)(s:MS δ)(op err val:Int)(hrs:s.replies.length≤1000000):DT 97 #[.pointer (some ⟨r,0,none⟩), .int .i64 op, .int .i64 err, .int .i64 val] T0 [cD V r s] (dw (λ_ H=>H=[cD V r (de s op err val)])):=
 Leg.Does.pack λa=>Leg.Does.withinR (Ca r (s.rep a) op err val s.replies hrs) (λ_ _ _ _=>trivial) (λ_ q=>az [0,1] rfl q) λv H hp=>by
  obtain⟨v',_,rfl⟩:=hp;exact⟨_,λ_ q=>bi (p:=λa:Adr=>[aj r (RepT.cells ((de s op err val).rep a)) 123,V.lg a.lg (de s op err val).e,own a.rs (de s op err val).replies.length (ints ((de s op err val).replies.flatMap ReplyT.flat)) 37 3,Df a.vo (de s op err val).vote,V.E (de s op err val).e (de s op err val).o]) {a with rs:=v'} (az [0,1,0,0,0] rfl q),rfl⟩
theorem qD{δ:Type}(V:Env δ)(r:Nat)(s:MS δ)(y:RowT)(op:Int)[OkR V.toDk s][OkRow y]:
 DT 98 #[(.pointer (some ⟨r,0,none⟩)),(.iface V.T V.ov),(.agg (ints y.flat).toArray),(.int .i64 (op))] T0 [cD V r s] (RI (.int .i64 (eF V.toDk s y op).2) [cD V r (eF V.toDk s y op).1]):=by
 refine BD 34 Tryz.func98 rfl rfl rfl λw0 F hF=>sr λ_ J1=>XY (ints y.flat) λb6=>?_
 refine PS ?_;refine nx J1 (aa λ_ J2=>sr λ_ J3=>PS ?_);refine LW 0 dS ba ah ?_;refine tp (kw RecT.zero (RecT.mk 0 0 y 0 BallotT.zero ChangeT.zero ViewT.zero) [(0,[Value.int .i64 0]),(2,ints y.flat)] iy eQ (g:=RecT.sg)) ?_;refine CE vn (kB V r s (kc y)) (SM [1]) ?_;refine PS ?_;refine nx J3 (sr λ_ J4=>P2 ?_);refine am ?_ ?_<;>intro h15;refine nx J4 (CY (sr λ_ J5=>P2 ?_));refine nx J5 (ai (ae (WK [0] (aq rfl rfl ?_))));have e:eF V.toDk s y op=(dY V.toDk s (kc y),rz V.toDk s (kc y)):=if_pos h15;exact jo e;refine nx J4 (CN (qx J2 (sr λ_ J6=>P4 ?_)));refine LW 1 dS ba ah ?_;refine P2 ?_;refine FA 9 bg ba ?_;refine gD (vs:=ints y.flat) (i:=0) (ab rfl) rfl rfl rfl rfl rfl (by rw[(ah y)];exact ba) (bG _) rfl rfl (λ_=>LC (cM _) (ah _)) (λa_=>(M5 ((dY V.toDk s (kc y)).rep a_) 0 rfl (by have h1:=(ah y);omega) (cz ((ah (((dY V.toDk s (kc y)).rep a_).own)).trans (ah y).symm)))) (PS ?_);refine FA 1938 bg kp ?_;refine SK 0 kp (λ_=>cM _) ?_ (hc:=by exact λa_=>(MN _ rfl _));refine PS ?_;refine FA 1939 bg aO ?_;refine SK 0 aO (λ_=>cM _) ?_ (hc:=by exact λa_=>(MM _ rfl _));refine PS ?_;refine FA 1940 bg aO ?_;refine SK 0 aO (λ_=>cM _) ?_ (hc:=by exact λa_=>(RepT.set_waits _ rfl _));refine nx J6 (sr λ_ J7=>P2 ?_);refine CZ GQ (mQ V r (tt (dY V.toDk s (kc y)) y op)) ID λvR=>?_
 refine nx J7 (sr λ_ J8=>PS ?_);refine nx J8 (ai (WK [0] (aq rfl rfl ?_)));have e:eF V.toDk s y op=(fe V.toDk (tt (dY V.toDk s (kc y)) y op),0):=if_neg h15;exact jo e
theorem og(x:RowT)(who:Int)(d:RowT):
 DT 152 #[(.agg (ints x.flat).toArray),(.int .i64 (who)),(.agg (ints d.flat).toArray)] T0 [] (RI (.tuple #[.agg (ints (dK x who d).1.flat).toArray, .int .i64 (dK x who d).2]) []):=by
 refine BD 68 Tryz.func152 rfl rfl rfl λw0 F hF=>sr λ_ J1=>XY (ints x.flat) λb3=>?_
 refine XY (ints d.flat) λb5=>?_
 refine XZ uj (ints RowT.zero.flat) λb6=>?_
 refine PS ?_;refine nx J1 (aa λ_ J2=>sr λ_ J3=>PS ?_);refine CE DE (jM who) ID ?_;refine aX ?_ ?_<;>intro h11;have hw:cH who=true:=by simpa using h11
 have hw2:0≤who∧who<5:=of_decide_eq_true hw;refine PS ?_;refine nx J3 (CN (qx J2 (aa λ_ J4=>sr λ_ J5=>PS ?_)));refine FA 29 dS fO ?_;refine IX (29+who.toNat) l6 aO ?_;refine LT 2 Y3 (.int .i64 ((x.heir[who.toNat]'(by omega)))) ?_ (hc:=by exact qM x (who.toNat) (by omega) (by omega) (jU x.heir (by omega)));refine PS ?_;refine am ?_ ?_<;>intro h18;refine nx J5 (CY (sr λ_ J6=>BV ((ints RowT.zero.flat).toArray) ?_));refine SW 0 ba ah ?_;refine PS ?_;refine nx J6 (ai (ae (RT 0 [] dS ba (ah _) ?_)));have e:dK x who d=(.zero,8):=by rw[dK,hw,fC,dif_pos hw,if_neg (by decide),if_pos h18]
 exact⟨by rw[e],rfl⟩;refine nx J5 (CN (qx J4 (aa λ_ J7=>D1 1 bf ?_)));refine PD 0 ?_;refine PD 1 ?_;refine FD 2 0 dS aO ?_;refine LR 3 Y3 (cC d rfl) ?_;refine ta 4 rfl (cw (r:=(fZ (d.version+1))) rfl rfl rfl rfl) ?_;refine FD 5 1 dS kR ?_;refine ta 6 rfl (aK (vs:=ints (bM d.cells.toList)) rfl zw rfl kR rfl (λ_ h=>h.2.1) (dV d.cells) (Bs d 0 rfl (by decide) (bk (dV d.cells)))) ?_;refine FD 7 29 dS fO ?_;refine IY 8 (29+who.toNat) l6 aO ?_;refine FD 10 34 dS zN ?_;refine AL 9 ?_;refine bT (i:=2) (ab rfl) rfl rfl rfl rfl rfl aO rfl rfl (LB (ah _)) (RowT.st_heir x (who.toNat) (by omega) (by omega) (xj x.heir (by omega) _)) rfl (EN (IY 11 (34+who.toNat*28) Jb kR ?_));refine AL 12 ?_;refine ck (vs:=ints (bM d.cells.toList)) (i:=2) (ab rfl) rfl rfl rfl rfl rfl (by rw[(dV d.cells)];exact kR) (bG _) rfl rfl (LC (ah _) (dV _)) (RowT.wr_left_ (RowT.mk x.version x.cells (x.heir.set who.toNat (fZ (d.version+1)) (by omega)) x.left) (who.toNat*28) (by omega) (by have h1:=(dV d.cells);omega) (uy si x.left (i:=who.toNat) 0 (by omega) (by omega) (by have h1:=(dV d.cells);omega) (cz ((dV (x.left[who.toNat]'(by omega))).trans (dV d.cells).symm)))) rfl (EN (DN (ac J7 (aa λ_ J8=>sr λ_ J9=>FA 29 dS fO ?_))));refine tp (aK (vs:=ints d.heir.toList) rfl l6 rfl fO rfl (RO 1) (iV d.heir) (MI d 0 rfl (by decide) (bk (iV d.heir)))) ?_;refine PS ?_;refine nx J9 (ap ?_)
 refine bB (α:=(Nat)×(RowT)) (λ⟨k,y⟩=>k≤5∧y=nu x who d k) (λ⟨k,y⟩=>[(1,(.int .i64 (who))),(3,(.pointer (some ⟨b3,0,none⟩))),(5,(.pointer (some ⟨b5,0,none⟩))),(6,(.pointer (some ⟨b6,0,none⟩))),(7,(.int .i64 0)),(32,(.agg (ints d.heir.toList).toArray)),(33,(.int .i64 (((k:Nat):Int))))]) (λ⟨k,y⟩=>[aj b6 (ints RowT.zero.flat) 60,aj b5 (ints d.flat) 60,aj b3 (ints y.flat) 60]) (λ⟨k,y⟩=>5-k) (0,(RowT.mk x.version x.cells (x.heir.set who.toNat (fZ (d.version+1)) (by omega)) (x.left.set who.toNat d.cells (by omega))))
  ⟨aN _,by rw[nu,nO,dif_pos hw];rfl⟩ SB
  (λ_ s=>ak [0,0,0] rfl s) (λ⟨k,y⟩ hinv=>?_)
 obtain⟨hk,hy⟩:=hinv;refine sr λ_ J10=>PS ?_
 refine am ?_ ?_<;>intro h34;refine nx J10 (aa λ_ J11=>CY (qx J11 (aa λ_ J12=>ap (sr λ_ J13=>PS ?_))));refine tp (qU (cs:=ints d.heir.toList) (v:=Value.int .i64 (d.heir[k]'(by omega))) (r:=k) rfl l6 Y3 rfl aO rfl rfl (by omega) (by omega) (by omega) (jU d.heir (by omega))) ?_;refine P2 ?_;refine nx J13 (sr λ_ J14=>P3 ?_);refine am ?_ ?_<;>intro h39;refine P3 ?_;refine am ?_ ?_<;>intro h42;refine P3 ?_;refine FA 29 dS fO ?_;refine IX (29+k) l6 aO ?_;refine LT 2 Y3 (.int .i64 ((y.heir[k]'(by omega)))) ?_ (hc:=by exact qM y k (by omega) (by omega) (jU y.heir (by omega)));refine PS ?_;refine am ?_ ?_<;>intro h49;refine PS ?_;refine nx J14 (CY (D1 1 bf ?_));refine PD 0 ?_;refine PD 1 ?_;refine PD 2 ?_;refine PD 3 ?_;refine FD 4 34 dS zN ?_;refine IY 5 (34+k*28) Jb kR ?_;refine ta 6 rfl (aK (vs:=ints (bM (d.left[k]'(by omega)).toList)) rfl zw rfl kR rfl (λ_ h=>h.2.1) (dV (d.left[k]'(by omega))) (Eb d (k*28) (by omega) (by omega) (j7 si d.left (i:=k) 0 (by omega) (by omega) (by decide) (bk (dV (d.left[k]'(by omega))))))) ?_;refine FD 7 29 dS fO ?_;refine IY 8 (29+k) l6 aO ?_;refine FD 10 34 dS zN ?_;refine AL 9 ?_;refine bT (i:=2) (ab rfl) rfl rfl rfl rfl rfl aO rfl rfl (LB (ah _)) (RowT.st_heir y k (by omega) (by omega) (xj y.heir (by omega) _)) rfl (EN (IY 11 (34+k*28) Jb kR ?_));refine AL 12 ?_
 refine ck (vs:=ints (bM (d.left[k]'(by omega)).toList)) (i:=2) (ab rfl) rfl rfl rfl rfl rfl (by rw[(dV (d.left[k]'(by omega)))];exact kR) (bG _) rfl rfl (LC (ah _) (dV _)) (RowT.wr_left_ (RowT.mk y.version y.cells (y.heir.set k (d.heir[k]'(by omega)) (by omega)) y.left) (k*28) (by omega) (by have h1:=(dV (d.left[k]'(by omega)));omega) (uy si y.left (i:=k) 0 (by omega) (by omega) (by have h1:=(dV (d.left[k]'(by omega)));omega) (cz ((dV (y.left[k]'(by omega))).trans (dV (d.left[k]'(by omega))).symm)))) rfl (EN (DN (ag (ac J12 (af (AD ?_))))));refine PS ?_;refine au ?_
 exact aJ ((k+1,(RowT.mk y.version y.cells (y.heir.set k (d.heir[k]'(by omega)) (by omega)) (y.left.set k (d.left[k]'(by omega)) (by omega)))):(Nat)×(RowT)) ⟨by omega,by rw[n0,←hy,mK,gj _ (by omega),gj _ (by omega),if_pos ⟨by omega,by omega,by omega⟩,BZ _ (by omega),Fl _ (by omega)]⟩ (by show 5- (k+1)<5-k;omega)
  SB
  (λ_ s=>ak [0,0,0] rfl s)
 refine PS ?_;refine nx J14 (CN (aQ (ag (ac J12 (af (AD ?_))))));refine PS ?_;refine au ?_
 exact aJ ((k+1,y):(Nat)×(RowT)) ⟨by omega,by rw[n0,←hy,mK,gj _ (by omega),gj _ (by omega),if_neg (by omega)]⟩ (by show 5- (k+1)<5-k;omega)
  SB
  (λ_ s=>ak [0,0,0] rfl s)
 refine P2 ?_
 iterate 5 refine UF ?_
 refine PS ?_;refine nx J14 (CN (aQ (ag (ac J12 (af (AD ?_))))));refine PS ?_;refine au ?_
 exact aJ ((k+1,y):(Nat)×(RowT)) ⟨by omega,by rw[n0,←hy,mK,gj _ (by omega),gj _ (by omega),if_neg (by omega)]⟩ (by show 5- (k+1)<5-k;omega)
  SB
  (λ_ s=>ak [0,0,0] rfl s)
 refine PS ?_;refine UF ?_;refine UF ?_;refine P2 ?_
 iterate 5 refine UF ?_
 refine PS ?_;refine nx J14 (CN (aQ (ag (ac J12 (af (AD ?_))))));refine PS ?_;refine au ?_
 exact aJ ((k+1,y):(Nat)×(RowT)) ⟨by omega,by rw[n0,←hy,mK,gj _ (by omega),gj _ (by omega),if_neg (by omega)]⟩ (by show 5- (k+1)<5-k;omega)
  SB
  (λ_ s=>ak [0,0,0] rfl s)
 refine nx J10 (aa λ_ J15=>CN (aZ (aB (aB (bw (ac J8 (sr λ_ J16=>FA 0 dS aO ?_)))))));refine LU 2 Y3 (cC y rfl) ?_;refine tp (cw (r:=(fZ (y.version+1))) rfl rfl rfl rfl) ?_;refine FA 0 dS aO ?_;refine bT (i:=2) (ab rfl) rfl rfl rfl rfl rfl aO rfl rfl (LB (ah _)) (wl y rfl _) rfl (nx J16 (sr λ_ J17=>LW 2 dS ba ah ?_));refine SW 0 ba ah ?_;refine PS ?_;refine nx J17 (ai (RT 0 [] dS ba (ah _) ?_));obtain rfl:k=5:=by omega
 subst hy;have e:dK x who d=({nu x who d 5 with version:=fZ ((nu x who d 5).version+1)},0):=by rw[dK,hw,fC,dif_pos hw,if_neg (by decide),if_neg h18]
 exact⟨by rw[e],rfl⟩;refine PS ?_;refine nx J3 (CY (sr λ_ J18=>BV ((ints RowT.zero.flat).toArray) ?_));refine SW 0 ba ah ?_;refine PS ?_;refine nx J18 (ai (ae (RT 0 [] dS ba (ah _) ?_)));have hw:cH who=false:=by simpa using h11
 have e:dK x who d=(.zero,5):=by rw[dK,hw];rfl
 exact⟨by rw[e],rfl⟩
theorem xV{δ:Type}(V:Env δ)(r:Nat)(s:MS δ)[OkR V.toDk s]:
 DT 150 #[(.pointer (some ⟨r,0,none⟩))] T0 [cD V r s] (dw (λr' H=>∃u,r'=u∧H=[own u (bz s).length (ints (bz s)) 3 1,cD V r s])):=by
 refine BD 44 Tryz.func150 rfl rfl rfl λw0 F hF=>sr λ_ J1=>PS ?_
 refine nx J1 (sr λ_ J2=>PS ?_);refine nx J2 (aa λ_ J3=>sr λ_ J4=>PS ?_);refine nx J4 (ap ?_)
 refine bB (α:=(Nat)×(Value)) (λ⟨k,u⟩=>k≤5∧u.oneCell'=true) (λ⟨k,u⟩=>[(0,(.pointer (some ⟨r,0,none⟩))),(2,(.slice none 0 0)),(3,u),(7,(.int .i64 (((k:Nat):Int))))]) (λ⟨k,u⟩=>[own u ((gN s k).length) (ints (gN s k)) 3 1,cD V r s]) (λ⟨k,u⟩=>5-k) (0,(.slice none 0 0))
  ⟨aN _,rfl⟩ SB
  (λ_ s=>fR 3 1 (ak [0] rfl s)) (λ⟨k,u⟩ hinv=>?_)
 obtain⟨hk,hu⟩:=hinv;have hol:=Fz s k;refine sr λ_ J5=>PS ?_
 refine am ?_ ?_<;>intro h8;refine nx J5 (aa λ_ J6=>CY (qx J6 (aa λ_ J7=>ap (sr λ_ J8=>P2 ?_))));refine nx J8 (sr λ_ J9=>P2 ?_);refine FA 2 bg be ?_;refine LZ 1 eL be ao s.view ?_ (hc:=by exact λ_=>cX _);refine PS ?_;refine CE Jy (sK s.view ((k:Nat):Int) OkVw.rng) ID ?_;refine P3 ?_;refine aX ?_ ?_<;>intro h18;refine P2 ?_;refine nx J9 (sr λ_ J10=>?_)
 iterate 5 refine PS ?_
 refine FA 0 bg aO ?_;refine LG 1 Y3 (.int .i64 (s.id)) ?_ (hc:=by exact λa_=>(cB _ rfl));refine PS ?_;refine am ?_ ?_<;>intro h26
 iterate 5 refine PS ?_
 refine FA 9 bg ba ?_;refine FA 38 dS fO ?_;refine IX (38+k) l6 aO ?_;refine LG 1 Y3 (.int .i64 ((s.own.heir[k]'(by omega)))) ?_ (hc:=by exact λa_=>(RepT.pt_own (s.rep a_) (29+k) (by omega) (by omega) (qM ((s.rep a_).own) k (by omega) (by omega) (jU (((s.rep a_).own).heir) (by omega)))));refine PS ?_;refine am ?_ ?_<;>intro h36;refine PS ?_;refine nx J10 (CY (af (P2 ?_)));refine aU (cells:=#[(.int .i64 (((k:Nat):Int)))]) (ab rfl) rfl rfl rfl jT qB rfl rfl rfl (by as_aux_lemma=>kernel_rfl) (λb40=>cG (k:=1) (news:=[(.int .i64 (((k:Nat):Int)))]) (nn':=(gN s k).length+1) (xs':=ints (gN s k)++[(.int .i64 (((k:Nat):Int)))]) (ab rfl) rfl rfl rfl jT qB rfl rfl rfl rfl rfl rfl (λ_ _=>jg rfl (RO 0) rfl) (by simp[Value.oneCell']) (by simp only[maxLen];omega) (by omega) (by simp) (by simp) (λv41 ov41=>PS ?_));refine au (ag (ac J7 (af (AD ?_))));refine PS ?_;refine au ?_
 exact aJ ((k+1,v41):(Nat)×(Value)) ⟨by omega,ov41⟩ (by show 5- (k+1)<5-k;omega)
  SB
  (λ_ q=>by
   show bH [own v41 (gN s (k+1)).length (ints (gN s (k+1))) 3 1,cD V r s] _;rw[show gN s (k+1)=gN s k++[((k:Nat):Int)]by rw[n6,if_pos (JG h18 h26 (by rw[gj _ (by omega)];exact h36))],ad,ee]
   exact ak [1,1] rfl q)
 refine PS ?_;refine nx J10 (CN (aQ (ag (ac J7 (af (AD ?_))))));refine PS ?_;refine au ?_
 exact aJ ((k+1,u):(Nat)×(Value)) ⟨by omega,hu⟩ (by show 5- (k+1)<5-k;omega)
  SB
  (λ_ q=>by
   show bH [own u (gN s (k+1)).length (ints (gN s (k+1))) 3 1,cD V r s] _;rw[show gN s (k+1)=gN s k by rw[n6,if_neg (by intro hq;have h2:=y9 hq;rw[gj _ (by omega)]at h2;first|omega| (simp_all;done)| (simp_all;omega)),aM]]
   exact ak [0,0] rfl q)
 refine P2 ?_
 iterate 8 refine UF ?_
 refine PS ?_;refine nx J10 (CN (aQ (ag (ac J7 (af (AD ?_))))));refine PS ?_;refine au ?_
 exact aJ ((k+1,u):(Nat)×(Value)) ⟨by omega,hu⟩ (by show 5- (k+1)<5-k;omega)
  SB
  (λ_ q=>by
   show bH [own u (gN s (k+1)).length (ints (gN s (k+1))) 3 1,cD V r s] _;rw[show gN s (k+1)=gN s k by rw[n6,if_neg (by intro hq;have h2:=y9 hq;rw[gj _ (by omega)]at h2;first|omega| (simp_all;done)| (simp_all;omega)),aM]]
   exact ak [0,0] rfl q)
 refine P2 ?_;refine nx J9 (sr λ_ J11=>P2 ?_)
 iterate 6 refine UF ?_
 refine P2 ?_
 iterate 8 refine UF ?_
 refine PS ?_;refine nx J11 (CN (aQ (ag (ac J7 (af (AD ?_))))));refine PS ?_;refine au ?_
 exact aJ ((k+1,u):(Nat)×(Value)) ⟨by omega,hu⟩ (by show 5- (k+1)<5-k;omega)
  SB
  (λ_ q=>by
   show bH [own u (gN s (k+1)).length (ints (gN s (k+1))) 3 1,cD V r s] _;rw[show gN s (k+1)=gN s k by rw[n6,if_neg (by intro hq;have h2:=y9 hq;rw[gj _ (by omega)]at h2;first|omega| (simp_all;done)| (simp_all;omega)),aM]]
   exact ak [0,0] rfl q)
 refine nx J5 (aa λ_ J12=>CN (aZ (aB (aB (bw (ac J3 (sr λ_ J13=>P2 ?_)))))));refine nx J13 (ai (WK [0,0] (aq rfl rfl ?_)));obtain rfl:k=5:=by omega
 exact⟨u,rfl,rfl⟩
theorem mG{δ:Type}(V:Env δ)(r:Nat)(s:MS δ)(who w:Int)(hm:cH who=true)(hw:0≤w∧w<5):
 DT 151 #[(.pointer (some ⟨r,0,none⟩)),(.int .i64 (who)),(.int .i64 (w))] T0 [cD V r s] (RI (.bool (uC s who w)) [cD V r s]):=by
 refine BD 17 Tryz.func151 rfl rfl rfl λw0 F hF=>?_
 have hm2:0≤who∧who<5:=of_decide_eq_true hm;refine sr λ_ J1=>PS ?_
 refine nx J1 (sr λ_ J2=>P3 ?_);refine FA 1943 bg fO ?_;refine IX (1943+who.toNat) l6 aO ?_;refine LG 0 Y3 (.int .i64 ((s.told[who.toNat]'(by omega)))) ?_ (hc:=by exact λa_=>(M6 (s.rep a_) (who.toNat) (by omega) (by omega) (jU ((s.rep a_).told) (by omega))));refine PS ?_;refine tp (lm (r:=((s.told[who.toNat]'(by omega)).fdiv (2^min w.toNat IntKind.i64.bits))) rfl rfl rfl (by omega) rfl) ?_;refine tp (tR (r:=(((s.told[who.toNat]'(by omega)).fdiv (2^min w.toNat IntKind.i64.bits))%2)) rfl rfl rfl (mask (k:=1) (by decide) _)) ?_;refine P2 ?_;refine nx J2 (ai (WK [0] (aq rfl rfl ?_)));exact⟨by rw[uC,qa,dif_pos hm],rfl⟩
theorem n8{δ:Type}(V:Env δ)(r:Nat)(s:MS δ)[OkR V.toDk s]:
    DT 107 #[(.pointer (some ⟨r,0,none⟩)),(.iface V.T V.ov)] T0 [cD V r s] (dw (λ_ H=>H=[cD V r (mq V.toDk s)])):=by
 refine BD 80 Tryz.func107 rfl rfl rfl λw0 F hF=>sr λ_ J1=>PS ?_
 refine CR IU (xV V r s) ID λvR HR hR=>?_
 obtain⟨_,rfl,rfl⟩:=hR;revert vR;intro ud;refine fY 0 rfl rfl (λhlud houd=>PS ?_);refine nx J1 (aa λ_ J2=>sr λ_ J3=>P2 ?_);refine FA 1938 bg kp ?_;refine LG 1 Y4 (.bool (s.busy)) ?_ (hc:=by exact λa_=>(w3 _ rfl));refine aX ?_ ?_<;>intro h19;refine PS ?_
 iterate 3 refine UT ?_
 refine PS ?_;refine nx J3 (CY (ai (ae (WK [1] (dy rfl ?_)))));exact congrArg (λq=>[cD V r q]) (show s=mq V.toDk s from(if_pos (by rw[h19];rfl)).symm);refine P2 ?_;refine tq (cu rfl jT rfl hlud) ?_;refine PS ?_;refine am ?_ ?_<;>intro h23;refine PS ?_;refine nx J3 (CY (ai (ae (WK [1] (dy rfl ?_)))));exact congrArg (λq=>[cD V r q]) (show s=mq V.toDk s from(if_pos (by rw[h19,decide_eq_true (by omega)];rfl)).symm);refine PS ?_;refine nx J3 (CN (qx J2 (aa λ_ J4=>sr λ_ J5=>PS ?_)));refine tp (cu rfl jT rfl hlud) ?_;refine PS ?_;refine nx J5 (ap ?_)
 refine bB (α:=(Nat)) (λk=>k≤(bz s).length∧∀j,j<k→∀w∈gE ((bz s).getD j 0),uC s ((bz s).getD j 0) w=true) (λk=>[(0,(.pointer (some ⟨r,0,none⟩))),(1,(.iface V.T V.ov)),(4,ud),(25,ud),(26,(.int .i64 ((((bz s).length:Nat):Int)))),(27,(.int .i64 (((k:Nat):Int))))]) (λk=>[own ud ((bz s).length) (ints (bz s)) 3 1,cD V r s]) (λk=>(bz s).length-k) 0
     ⟨aN _,λj h=>absurd h (by omega)⟩ SB
     (λ_ s=>s) (λk hinv=>?_)
 obtain⟨hk,hal⟩:=hinv;refine sr λ_ J6=>PS ?_
 refine am ?_ ?_<;>intro h28;refine nx J6 (aa λ_ J7=>CY (qx J7 (aa λ_ J8=>ap (sr λ_ J9=>?_))));have hmm1:(bz s).getD k 0∈bz s:=by rw[List.getD_eq_getElem?_getD,List.getElem?_eq_getElem (by omega)];exact bZ _
 have hm1:cH ((bz s).getD k 0)=true:=(vQ hmm1).1;have hn1:0≤(bz s).getD k 0∧(bz s).getD k 0<5:=of_decide_eq_true hm1;refine fG 0 rfl rfl (by omega) (λge1 ce1 he1 _=>tp (bv (r:=k) he1 rfl jT aO rfl rfl (by omega) (by omega) (by omega)) ?_);refine tp (cV (v:=(.int .i64 (((bz s).getD k 0)))) rfl Y3 rfl rfl (dT 0 rfl he1 rfl) (vF (by omega))) ?_;refine PS ?_;refine nx J9 (sr λ_ J10=>PS ?_);refine CR Gz (pG ((bz s).getD k 0) hm1) ID λvR HR hR=>?_
 obtain⟨_,rfl,rfl⟩:=hR;revert vR;intro uw;refine fY 0 rfl rfl (λhluw _=>fG 0 rfl rfl (by omega) (λgw capw hvw hcapw=>tp (cu rfl jT rfl hluw) ?_));refine PS ?_;refine nx J10 (ap (qS 2 (sr λ_ J11=>PS ?_)));refine nx J11 (aa λ_ J12=>CY (qx J12 (aa λ_ J13=>ap (sr λ_ J14=>tp (bv (r:=0) hvw rfl jT aO rfl rfl (by omega) (by omega) rfl) ?_))));refine tp (cV (v:=(.int .i64 (((((bz s).getD k 0)+1)%5)))) rfl Y3 rfl rfl (dT 0 rfl hvw rfl) rfl) ?_;refine PS ?_;refine nx J14 (sr λ_ J15=>P3 ?_);refine CE DG (mG V r s ((bz s).getD k 0) ((((bz s).getD k 0)+1)%5) hm1 (by omega)) (SM [2]) ?_;refine aX ?_ ?_<;>intro h41;refine PS ?_;refine nx J15 (CN (aQ (ag (ac J13 (af (tp (cw (r:=1) rfl rfl rfl (by decide)) ?_))))));refine PS ?_;refine au (ef (sr λ_ J16=>PS ?_));refine nx J16 (aa λ_ J17=>CY (qx J17 (aa λ_ J18=>ap (sr λ_ J19=>tp (bv (r:=1) hvw rfl jT aO rfl rfl (by omega) (by omega) rfl) ?_))));refine tp (cV (v:=(.int .i64 (((((bz s).getD k 0)+2)%5)))) rfl Y3 rfl rfl (dT 1 rfl hvw rfl) rfl) ?_;refine PS ?_;refine nx J19 (sr λ_ J20=>P3 ?_);refine CE DG (mG V r s ((bz s).getD k 0) ((((bz s).getD k 0)+2)%5) hm1 (by omega)) ID ?_;refine aX ?_ ?_<;>intro h41;refine PS ?_;refine nx J20 (CN (aQ (ag (ac J18 (af (tp (cw (r:=2) rfl rfl rfl (by decide)) ?_))))));refine PS ?_;refine au (ef (sr λ_ J21=>PS ?_));refine nx J21 (aa λ_ J22=>CN (aZ (aB (aB (bw (ag (ac J8 (af (AD ?_)))))))));refine PS ?_
 refine au ?_
 exact aJ ((k+1):(Nat)) ⟨by omega,λj hj=>by
        by_cases q:j=k
        · subst q
          intro w hw;rw[gE,if_pos hm1]at hw;simp only[ci,List.not_mem_nil,or_false]at hw;rcases hw with rfl|rfl<;>assumption
        · exact hal j (by omega)⟩ (by show(bz s).length- (k+1)< (bz s).length-k;omega)
   SB
   (λ_ s=>ak [2,0] rfl s)
 refine PS ?_;refine nx J20 (CY (ai (aH (ae (ae (aH (aH (ae (ae (aH (ae ?_)))))))))));refine WK [0] (dy rfl ?_)
 have hb: ¬tU s=true:=λh=>by
   have h2:=List.all_eq_true.1 (List.all_eq_true.1 h _ hmm1) (((bz s).getD k 0+2)%5) (by rw[gE,if_pos hm1];simp);rw[h41]at h2;cases h2
 exact MQ (by rw[mq,if_neg (by rw[h19,decide_eq_false (by omega)];decide),if_neg hb]);refine PS ?_;refine nx J15 (CY (ai (aH (ae (ae (aH (aH (ae (ae (aH (ae ?_)))))))))));refine WK [0] (dy rfl ?_)
 have hb: ¬tU s=true:=λh=>by
   have h2:=List.all_eq_true.1 (List.all_eq_true.1 h _ hmm1) (((bz s).getD k 0+1)%5) (by rw[gE,if_pos hm1];simp);rw[h41]at h2;cases h2
 exact MQ (by rw[mq,if_neg (by rw[h19,decide_eq_false (by omega)];decide),if_neg hb]);refine nx J6 (aa λ_ J23=>CN (aZ (aB (aB (bw (ac J4 (sr λ_ J24=>P2 ?_)))))));refine FA 9 bg ba ?_;refine LZ 1 dS ba ah s.own ?_ (hc:=by exact λ_=>Je _);refine XZ uj (ints RowT.zero.flat) λb9=>?_
 refine SW 0 ba ah ?_;refine nx J24 (aa λ_ J25=>sr λ_ J26=>PS ?_);refine tp (cu rfl jT rfl hlud) ?_;refine PS ?_;refine nx J26 (ap ?_)
 refine bB (α:=(Nat)×(RowT)) (λ⟨q,y⟩=>q≤(bz s).length∧y=pg s ((bz s).take q)) (λ⟨q,y⟩=>[(0,(.pointer (some ⟨r,0,none⟩))),(1,(.iface V.T V.ov)),(4,ud),(9,(.pointer (some ⟨b9,0,none⟩))),(49,ud),(50,(.int .i64 ((((bz s).length:Nat):Int)))),(51,(.int .i64 (((q:Nat):Int))))]) (λ⟨q,y⟩=>[aj b9 (ints y.flat) 60,own ud ((bz s).length) (ints (bz s)) 3 1,cD V r s]) (λ⟨q,y⟩=>(bz s).length-q) (0,s.own)
     ⟨aN _,rfl⟩ SB
     (λ_ s=>ak [0,0,0] rfl s) (λ⟨q,y⟩ hinv=>?_)
 obtain⟨hq,hy⟩:=hinv;refine sr λ_ J27=>PS ?_
 refine am ?_ ?_<;>intro h52;refine nx J27 (aa λ_ J28=>CY (qx J28 (aa λ_ J29=>ap (sr λ_ J30=>?_))));have hmm2:(bz s).getD q 0∈bz s:=by rw[List.getD_eq_getElem?_getD,List.getElem?_eq_getElem (by omega)];exact bZ _
 have hm2:cH ((bz s).getD q 0)=true:=(vQ hmm2).1;have hn2:0≤(bz s).getD q 0∧(bz s).getD q 0<5:=of_decide_eq_true hm2;refine fG 1 rfl rfl (by omega) (λge1 ce1 he1 _=>tp (bv (r:=q) he1 rfl jT aO rfl rfl (by omega) (by omega) (by omega)) ?_);refine tp (cV (v:=(.int .i64 (((bz s).getD q 0)))) rfl Y3 rfl rfl (dT 1 rfl he1 rfl) (vF (by omega))) ?_;refine PS ?_;refine nx J30 (aa λ_ J31=>sr λ_ J32=>PS ?_);refine FA 29 dS fO ?_;refine IX (29+(((bz s).getD q 0)).toNat) l6 aO ?_;refine LT 0 Y3 (.int .i64 ((y.heir[(((bz s).getD q 0)).toNat]'(by omega)))) ?_ (hc:=by exact qM y ((((bz s).getD q 0)).toNat) (by omega) (by omega) (jU y.heir (by omega)));refine PS ?_;refine am ?_ ?_<;>intro h59;refine nx J32 (CY (aZ (aB (bw (ac J29 (af (AD ?_)))))));refine PS ?_;refine au ?_
 exact aJ ((q+1,y):(Nat)×(RowT)) ⟨by omega,by rw[tr s (by omega),←hy,if_pos (by rw[fC,dif_pos hm2];exact h59)]⟩ (by show(bz s).length- (q+1)< (bz s).length-q;omega)
   SB
   (λ_ s=>ak [0,0,0] rfl s)
 refine nx J32 (CN (qx J31 (aa λ_ J33=>eJ (α:=(Nat)) (λ_=>True) (λb12=>[(0,(.pointer (some ⟨r,0,none⟩))),(1,(.iface V.T V.ov)),(4,ud),(9,(.pointer (some ⟨b9,0,none⟩))),(12,(.pointer (some ⟨b12,0,none⟩))),(13,(.int .i64 ((dK y ((bz s).getD q 0) (s.last[(((bz s).getD q 0)).toNat]'(by omega))).2))),(49,ud),(50,(.int .i64 ((((bz s).length:Nat):Int)))),(51,(.int .i64 (((q:Nat):Int))))]) (λb12=>[aj b12 (ints ((dK y ((bz s).getD q 0) (s.last[(((bz s).getD q 0)).toNat]'(by omega))).1).flat) 60,aj b9 (ints y.flat) 60,own ud ((bz s).length) (ints (bz s)) 3 1,cD V r s]) (λb12 _=>?_) (λtl33=>?_))));refine ac J33 (aa λ_ J34=>sr λ_ J35=>P2 ?_);refine am ?_ ?_<;>intro h73
 · exact absurd (JB hm2 (by rw[fC,dif_pos hm2];exact h59)) h73
 refine nx J35 (CN (qx J34 (af (LW 0 dS ba ah ?_))));refine SW 1 ba ah ?_;refine au (ag (ac J29 (af (AD ?_))));refine PS ?_;refine au ?_
 exact aJ ((q+1,(dK y ((bz s).getD q 0) (s.last[(((bz s).getD q 0)).toNat]'(by omega))).1):(Nat)×(RowT)) ⟨by omega,by rw[tr s (by omega),←hy,if_neg (by rw[fC,dif_pos hm2];exact h59),mT,dif_pos hm2]⟩ (by show(bz s).length- (q+1)< (bz s).length-q;omega)
   SB
   (λ_ s=>ak [1,1,1] rfl s)
 refine DC bf (BL 0) (cN 2 rfl rfl) ?_;refine LY 0 dS ba ah ?_;refine PD 1 ?_;refine PD 2 ?_;refine PD 3 ?_;refine PD 4 ?_;refine FD 5 1948 bg sv ?_;refine IY 6 (1948+((((bz s).getD q 0)).toNat)*174) FK ba ?_;refine ta 7 rfl (fI (vs:=ints (s.last[(((bz s).getD q 0)).toNat]'(by omega)).flat) rfl dS rfl ba rfl (λ_ h=>h.2.2.1) (ah (s.last[(((bz s).getD q 0)).toNat]'(by omega))) (λa_=>(RepT.sub_last (s.rep a_) (((((bz s).getD q 0)).toNat)*174) (by omega) (by omega) (j7 dp ((s.rep a_).last) (i:=(((bz s).getD q 0)).toNat) 0 (by omega) (by omega) (by decide) (bk (ah (((s.rep a_).last)[(((bz s).getD q 0)).toNat]'(by omega)))))))) ?_;refine cJ [8,12] (by kernel_rfl) rfl (aF rfl ?_ ?_);refine CE IT (og y ((bz s).getD q 0) (s.last[(((bz s).getD q 0)).toNat]'(by omega))) ID ?_;refine EN (PD 9 ?_);refine PD 10 ?_;refine PD 11 ?_;refine AL 12 ?_;refine XZ uj (ints RowT.zero.flat) λb12=>?_
 refine EN (AL 13 ?_);refine SW 0 ba ah ?_;refine EN (PD 14 ?_);refine DN ?_
 exact aE
   SB
   (λ_ s=>s)
   (tl33 ((b12):(Nat)) trivial)
 refine aF rfl ?_ ?_;refine XZ uj (ints RowT.zero.flat) λb12=>?_
 refine EN (AL 8 ?_);refine CE IT (og y ((bz s).getD q 0) (s.last[(((bz s).getD q 0)).toNat]'(by omega))) ID ?_;refine EN (PD 9 ?_);refine PD 10 ?_;refine PD 11 ?_;refine AL 13 ?_;refine SW 0 ba ah ?_;refine EN (PD 14 ?_);refine DN ?_
 exact aE
   SB
   (λ_ s=>s)
   (tl33 ((b12):(Nat)) trivial)
 exact bD;refine nx J27 (aa λ_ J36=>CN (aZ (aB (aB (bw (ac J25 (af ?_)))))));have hoy:OkRow y:=by rw[hy];exact inferInstance
 refine P2 ?_;refine LW 0 dS ba ah ?_;refine CE Jr (qD V r s y 0) (SM [2]) ?_;refine au (WK [0] (bu rfl ?_));obtain rfl:k=(bz s).length:=by omega
 obtain rfl:q=(bz s).length:=by omega
 have hb:tU s=true:=List.all_eq_true.2 λi hi=>List.all_eq_true.2 λw hw=>by
   obtain⟨j,hj,rfl⟩:=e4 hi;have h2:=hal j (by omega) w;rw[List.getD_eq_getElem?_getD,List.getElem?_eq_getElem hj]at h2;exact h2 hw
 rw[g8]at hy;subst hy;exact MQ (by rw[mq,if_neg (by rw[h19,decide_eq_false (by omega)];decide),if_pos hb])
end Go.Proofs.YtjblgopghhgflaaGreat
end
