/-
  Joined texts:what a statement's proof reaches.
-/
import Derived.Conc.LoneCalls
import Derived.Conc.LoneSelectN
import Derived.Test.YtfocodjhmkokpaaGreatDoorPTC4
set_option maxHeartbeats 8000000
set_option maxRecDepth 100000
set_option linter.unusedSimpArgs false
set_option linter.unusedVariables false
section
namespace Api
open Go Leg Codec Dsk Wal
structure MS(δ:Type) where
 id:Int
 view:ViewT
 own:RowT
 mirror:MirT
 acc:AccT
 round:Int
 vote:Option VoteT
 book:BookT
 busy:Bool
 kept:Int
 waits:Int
 ops:Int
 replies:List ReplyT
 told:Vector Int 5
 last:Vector RowT 5
 e:δ
 o:List SaidT
structure Adr where
 lg:Nat
 vo:Value
 rs:Value
structure Dk(δ:Type) where
 pt:δ→List UInt8→δ×Int
 dn:δ→Bool
 ok:δ→Prop
 sure: ∀(e:δ) (bs:List UInt8),ok e→bs.length≤3000→ok (pt e bs).1
variable {δ:Type}
abbrev MS.rep(s:MS δ)(a:Adr):RepT:=⟨s.id, .pointer (some ⟨a.lg,0,none⟩),s.view,s.own,s.mirror,s.acc,s.round,a.vo,s.book,s.busy,s.kept,s.waits,s.ops,a.rs,s.told,s.last⟩
def MS.setView(s:MS δ)(v:ViewT):MS δ:= {s with view:=v}
def MS.setOwn(s:MS δ)(v:RowT):MS δ:= {s with own:=v}
def MS.setAcc(s:MS δ)(v:AccT):MS δ:= {s with acc:=v}
def MS.setRound(s:MS δ)(v:Int):MS δ:= {s with round:=v}
def MS.setBusy(s:MS δ)(v:Bool):MS δ:= {s with busy:=v}
def MS.setKept(s:MS δ)(v:Int):MS δ:= {s with kept:=v}
def MS.setWaits(s:MS δ)(v:Int):MS δ:= {s with waits:=v}
def MS.setOps(s:MS δ)(v:Int):MS δ:= {s with ops:=v}
def MS.setTold(s:MS δ)(v:Vector Int 5):MS δ:= {s with told:=v}
def MS.setLast(s:MS δ)(v:Vector RowT 5):MS δ:= {s with last:=v}
def Adr.nil:Adr:=⟨0, .pointer none, .slice none 0 0⟩
def dr(w:Int):Int:=IntKind.i64.wrap (1*2^min w.toNat IntKind.i64.bits)
def Eb(a b:BallotT):Bool:=if a.round≠b.round then decide (a.round<b.round)else decide (a.who<b.who)
def Bc(a:AccT)(ep:Int)(b:BallotT):Bool:=decide (ep≠a.epoch)||(decide (b.round<1)||Eb b a.vow)
def cb(a:AccT)(ep:Int)(b:BallotT):AccT×Bool:=if Bc a ep b then(a,false)else({a with vow:=b},true)
def gZ(a:AccT)(ep:Int)(b:BallotT)(c:ChangeT):AccT×Bool:=if Bc a ep b then(a,false)else({a with vow:=b,had:=b,change:=c},true)
def kQ(bits:Int)(k:Nat):List Int:=((List.range k).filter λi:Nat=>Jz bits ((i:Nat):Int)).map λi:Nat=>((i:Nat):Int)
def jy(bits:Int):List Int:=kQ bits 5
def NY(part all:Int):Bool:=decide (2* (((jy (uF .i64 part all)).length:Nat):Int)>(((jy all).length:Nat):Int))
def hZ(v:ViewT)(bits:Int):Bool:=NY bits v.members
def jv(v:ViewT)(b:BallotT)(c:ChangeT):VoteT:= {VoteT.zero with view:=v,ballot:=b,change:=c}
def oB(v:VoteT)(who:Int)(b:BallotT):Bool:=decide (b.flat=v.ballot.flat)&&jr v.view who
def xg(v:VoteT)(who:Int)(had:BallotT)(c:ChangeT):VoteT:=
 if decide (0<had.round)&&Eb v.best had then {v with vowed:=jp .i64 v.vowed (dr who),best:=had,change:=c}else {v with vowed:=jp .i64 v.vowed (dr who)}
def eX(v:VoteT)(who:Int)(b had:BallotT)(c:ChangeT):VoteT×Bool:=
 if v.putting|| !oB v who b then(v,false)else({xg v who had c with putting:=hZ v.view (jp .i64 v.vowed (dr who))},hZ v.view (jp .i64 v.vowed (dr who)))
def gY(v:VoteT)(who:Int)(b:BallotT):VoteT×Bool:=
 if !v.putting|| !oB v who b then(v,false)else({v with took:=jp .i64 v.took (dr who)},hZ v.view (jp .i64 v.took (dr who)))
def m5(x:RowT)(who v:Int)(l:Vector CellT 4):RowT:=if h:cO who=true then {x with heir:=x.heir.set who.toNat v (fy h),left:=x.left.set who.toNat l (fy h)}else x
def yr(x:RowT)(who:Int):Vector CellT 4:=if h:cO who=true then x.left[who.toNat]'(fy h)else RowT.zero.cells
def nc(who:Int)(dead:RowT)(x:RowT)(i:Nat):RowT:=if((i:Nat):Int)≠who∧0<fb dead ((i:Nat):Int)∧fb x ((i:Nat):Int)=0 then m5 x ((i:Nat):Int) (fb dead ((i:Nat):Int)) (yr dead ((i:Nat):Int))else x
def nT(x:RowT)(who:Int)(dead:RowT)(k:Nat):RowT:=(List.range k).foldl (nc who dead) (m5 x who (fR (dead.version+1)) dead.cells)
def cX(x:RowT)(who:Int)(dead:RowT):RowT×Int:=
 if !cO who then(.zero,5)else if 0<fb x who then(.zero,8)else({nT x who dead 5 with version:=fR ((nT x who dead 5).version+1)},0)
def sC(s:MS δ)(who:Int):Int:=if h:cO who=true then s.told[who.toNat]'(fy h)else 0
def lY(s:MS δ)(who:Int):RowT:=if h:cO who=true then s.last[who.toNat]'(fy h)else .zero
def Dx{α:Type}(v:Vector α 5)(w:Int)(x:α):Vector α 5:=if h:cO w=true then v.set w.toNat x (fy h)else v
def mr(s:MS δ)(who:Int)(y:RowT):MS δ:= {s with last:=if sC s who=0∨(lY s who).version<y.version then Dx s.last who y else s.last}
def tG(s:MS δ)(from' who:Int)(y:RowT):MS δ:= {mr s who y with told:=Dx s.told who (jp .i64 (sC s who) (dr from'))}
def xk(s:MS δ)(who w:Int):Bool:=decide ((sC s who).fdiv (2^min w.toNat IntKind.i64.bits)%2=1)
def EC(s:MS δ)(i:Nat):Bool:=decide (jQ s.view ((i:Nat):Int)=some s.id)&&decide (fb s.own ((i:Nat):Int)≤0)
def iH(s:MS δ)(k:Nat):List Int:=((List.range k).filter (EC s)).map λi:Nat=>((i:Nat):Int)
def bE(s:MS δ):List Int:=iH s 5
def wQ(s:MS δ):Bool:=(bE s).all λi=>(iw i).all λw=>xk s i w
def nU(s:MS δ)(l:List Int):RowT:=l.foldl (λx i=>if 0<fb x i then x else(cX x i (lY s i)).1) s.own
def kD(v:ViewT):MsgT:= {MsgT.zero with kind:=7,view:=v}
def pA(i:Int)(v:ViewT):MsgT:= {MsgT.zero with kind:=8,whose:=i,view:=v}
def fP(ep:Int)(b:BallotT):MsgT:= {MsgT.zero with kind:=3,epoch:=ep,ballot:=b}
def lv(ep:Int)(b had:BallotT)(c:ChangeT):MsgT:= {MsgT.zero with kind:=4,epoch:=ep,ballot:=b,had:=had,change:=c}
def jI(ep:Int)(b:BallotT)(c:ChangeT):MsgT:= {MsgT.zero with kind:=5,epoch:=ep,ballot:=b,change:=c}
def ki(ep:Int)(b:BallotT):MsgT:= {MsgT.zero with kind:=6,epoch:=ep,ballot:=b}
def ik(ep:Int)(b:BallotT):RecT:= {RecT.zero with kind:=3,epoch:=ep,ballot:=b}
def l4(ep:Int)(b:BallotT)(c:ChangeT):RecT:= {RecT.zero with kind:=4,epoch:=ep,ballot:=b,change:=c}
def dB(s:MS δ)(n:Int):MS δ:= {s with round:=n}
def la(s:MS δ)(v:VoteT):MS δ:= {s with vote:=some v}
def vC(s:MS δ)(a:AccT):MS δ:= {s with acc:=a}
variable (K:Dk δ)
def ja(s:MS δ)(l:List SaidT):MS δ:= {s with o:=if K.dn s.e then s.o else s.o++l}
def BE(s:MS δ)(to':Int)(m:MsgT):MS δ:=ja K s [⟨to',m⟩]
theorem qP(s:MS δ):ja K s []=s:=by
 unfold ja;rw[aL,ite_self]
theorem Kp(s:MS δ)(a b:List SaidT):ja K (ja K s a) b=ja K s (a++b):=by
 unfold ja
 by_cases h:K.dn s.e=true<;>simp[h]
def lO(f:MS δ→MS δ)(s:MS δ)(to':Int)(m:MsgT):MS δ:=if to'=s.id then f s else BE K s to' m
def dN(s:MS δ)(r:RecT):MS δ:= {s with e:=(K.pt s.e (gy r)).1}
def tY(s:MS δ)(r:RecT):Int:=(K.pt s.e (gy r)).2
def dp(s:MS δ)(op err val:Int):MS δ:= {s with replies:=s.replies++[⟨op,err,val⟩]}
def eY(s:MS δ):MS δ:=ja K s (qD (s.rep .nil))
def oY(id:Int)(m:MsgT)(p:Nat→Bool)(k:Nat):List SaidT:=((List.range k).filter λi:Nat=> !decide (((i:Nat):Int)=id)&&p i).map λi:Nat=>⟨((i:Nat):Int),m⟩
theorem jl(id:Int)(m:MsgT)(p:Nat→Bool)(k:Nat):oY id m p (k+1)=oY id m p k++(if((k:Nat):Int)≠id∧p k=true then [⟨((k:Nat):Int),m⟩]else []):=by
 unfold oY;rw[dh,List.filter_append,cJ]
 by_cases h:((k:Nat):Int)=id<;>by_cases h2:p k=true<;>simp[h,h2]
def kO(s:MS δ)(y:RowT):MS δ:=ja K s (oY s.id (ug s.id y) (λ_=>true) 5)
def lU(s:MS δ)(v:ViewT):MS δ:=ja K s (oY s.id (kD v) (λ_=>true) 5)
def q8(s:MS δ)(x:RowT)(op:Int):MS δ:= {s with own:=x,busy:=true,kept:=0,waits:=op}
def dX(s:MS δ)(x:RowT)(op:Int):MS δ×Int:=if tY K s (gL x)≠0 then(dN K s (gL x),tY K s (gL x))else(eY K (q8 (dN K s (gL x)) x op),0)
def lC(s:MS δ):MS δ:=if s.busy||decide ((bE s).length=0)then s else if wQ s then(dX K s (nU s (bE s)) 0).1 else s
def gR(s:MS δ):MS δ:= {s with busy:=false,book:=(fh s.book s.id s.own).1}
def lM(s:MS δ):MS δ:= {s with replies:=if 0<s.waits then s.replies++[⟨s.waits,0,0⟩]else s.replies,waits:=if 0<s.waits then 0 else s.waits}
theorem zZ{s:MS δ}(h:0<s.waits):lM s= {dp s s.waits 0 0 with waits:=0}:=by unfold lM;rw[if_pos h,if_pos h];rfl
theorem Aa{s:MS δ}(h: ¬0<s.waits):lM s=s:=by unfold lM;rw[if_neg h,if_neg h]
def kw(s:MS δ):MS δ:=lC K (kO K (lM (gR s)) s.own)
def lZ(s:MS δ)(from' ver:Int):Bool:=s.busy&&(decide (ver=s.own.version)&&decide (from'∈iw s.id))
def yD(s:MS δ):Bool:=(iw s.id).all λw=> !Cw s.kept w
def iM(s:MS δ)(from':Int):MS δ:= {s with kept:=jp .i64 s.kept (dr from')}
def dv(s:MS δ)(from':Int)(m:MsgT):MS δ:=if lZ s from' m.version then(if yD (iM s from')then kw K (iM s from')else iM s from')else s
def A7(s:MS δ)(w:Int)(y:RowT):MS δ:= {s with book:=(fh s.book w y).1}
def iz(s:MS δ)(w:Int)(y:RowT):MS δ:= {s with mirror:=(m9 s.mirror w y).1}
def gH(s:MS δ)(from':Int)(m:MsgT):MS δ:=
 if m.whose≠from'∨fz s.mirror m.whose=true then s
 else if mp s.mirror m.whose m.row then(if tY K s (kd m.whose m.row)≠0 then dN K s (kd m.whose m.row)else BE K (iz (dN K s (kd m.whose m.row)) m.whose m.row) from' (uo (dF (iz (dN K s (kd m.whose m.row)) m.whose m.row).mirror m.whose).version))
 else BE K s from' (uo (dF s.mirror m.whose).version)
def eT(s:MS δ)(from':Int)(m:MsgT):MS δ:=lC K (if from'∈iw m.whose then tG s from' m.whose m.row else s)
def lD(s:MS δ)(w:Int):MS δ:= {s with mirror:=o9 s.mirror w}
def eL(s:MS δ)(from' w:Int):MS δ:=
 let back:=λs:MS δ=>lO K (λs=>eT K s s.id (iC w (dF s.mirror w))) s from' (iC w (dF s.mirror w))
 if jQ s.view w≠some from' then s
 else if fz s.mirror w then back s
 else if tY K s (jt w)≠0 then dN K s (jt w)else back (lD (dN K s (jt w)) w)
def gz(s:MS δ)(i w:Int):MS δ:=if xk s i w then s else lO K (λs=>eL K s s.id i) s w (pA i s.view)
def lE(s:MS δ)(i:Int):MS δ:=gz K (gz K s i ((i+1)%5)) i ((i+2)%5)
def gg(l:List Int)(s:MS δ):MS δ:=l.foldl (lE K) s
def pR(s:MS δ):MS δ:=gg K (bE s) s
def lB(s:MS δ)(v:ViewT):MS δ:= {s with view:=v,acc:= {AccT.zero with epoch:=v.epoch},vote:=none,round:=0}
def rN(s:MS δ)(v:ViewT):Bool:=decide (s.view.epoch<v.epoch)&&decide (tY K s (kC v)=0)
def gP(s:MS δ)(v:ViewT):MS δ:=if v.epoch≤s.view.epoch then s else if tY K s (kC v)≠0 then dN K s (kC v)else pR K (lB (dN K s (kC v)) v)
def jj(s:MS δ)(from':Int)(m:MsgT):MS δ:=eL K (gP K s m.view) from' m.whose
def jw(s:MS δ)(c:ChangeT):MS δ:=if(dW s.view c).2≠0 then s else if rN K s (dW s.view c).1 then lU K (gP K s (dW s.view c).1) (dW s.view c).1 else gP K s (dW s.view c).1
def ez(f:MS δ→MS δ)(s:MS δ)(from':Int)(m:MsgT):MS δ:=
 if m.epoch<s.view.epoch then(if m.kind=3∨m.kind=5 then BE K s from' (kD s.view)else s)
 else if s.view.epoch<m.epoch∨jr s.view s.id=false then s
 else f (dB s (max s.round m.ballot.round))
def kh(from':Int)(m:MsgT)(s:MS δ):MS δ:=match s.vote with
 |none=>s
 |some vt=>if(gY vt from' m.ballot).2 then jw K (la s (gY vt from' m.ballot).1) vt.change else(la s (gY vt from' m.ballot).1)
def pw(s:MS δ)(from':Int)(m:MsgT):MS δ:=ez K (kh K from' m) s from' m
def kn(from':Int)(m:MsgT)(s:MS δ):MS δ:=lO K (λs=>pw K s s.id (ki m.epoch m.ballot)) s from' (ki m.epoch m.ballot)
def mU(from':Int)(m:MsgT)(s:MS δ):MS δ:=
 if(dW s.view m.change).2≠0 then s else if(gZ s.acc m.epoch m.ballot m.change).2=false then s
 else if(gZ s.acc m.epoch m.ballot m.change).1.flat≠s.acc.flat then(if tY K s (l4 m.epoch m.ballot m.change)≠0 then dN K s (l4 m.epoch m.ballot m.change)else kn K from' m (vC (dN K s (l4 m.epoch m.ballot m.change)) (gZ s.acc m.epoch m.ballot m.change).1))
 else kn K from' m s
def qH(s:MS δ)(from':Int)(m:MsgT):MS δ:=ez K (mU K from' m) s from' m
def jq(s:MS δ)(m:MsgT):MS δ:=ja K s (oY s.id m (λi=>jr s.view ((i:Nat):Int)) 5)
def hY(f:MS δ→MsgT→MS δ)(s:MS δ)(m:MsgT):MS δ:=if jr s.view s.id then f (jq K s m) m else jq K s m
def jJ(s:MS δ)(vt:VoteT):MS δ:=hY K (λs m=>qH K s s.id m) s (jI s.view.epoch vt.ballot vt.change)
def oA(from':Int)(m:MsgT)(s:MS δ):MS δ:=match s.vote with
 |none=>s
 |some vt=>if(eX vt from' m.ballot m.had m.change).2 then jJ K (la s (eX vt from' m.ballot m.had m.change).1) (eX vt from' m.ballot m.had m.change).1 else(la s (eX vt from' m.ballot m.had m.change).1)
def px(s:MS δ)(from':Int)(m:MsgT):MS δ:=ez K (oA K from' m) s from' m
def kx(from':Int)(m:MsgT)(a:AccT)(s:MS δ):MS δ:=lO K (λs=>px K s s.id (lv m.epoch m.ballot a.had a.change)) s from' (lv m.epoch m.ballot a.had a.change)
def nZ(from':Int)(m:MsgT)(s:MS δ):MS δ:=
 if(cb s.acc m.epoch m.ballot).2=false then s
 else if(cb s.acc m.epoch m.ballot).1.vow.flat≠s.acc.vow.flat then(if tY K s (ik m.epoch m.ballot)≠0 then dN K s (ik m.epoch m.ballot)else kx K from' m (cb s.acc m.epoch m.ballot).1 (vC (dN K s (ik m.epoch m.ballot)) (cb s.acc m.epoch m.ballot).1))
 else kx K from' m (cb s.acc m.epoch m.ballot).1 s
def qI(s:MS δ)(from':Int)(m:MsgT):MS δ:=ez K (nZ K from' m) s from' m
def lw(s:MS δ)(vt:VoteT):MS δ:=hY K (λs m=>qI K s s.id m) s (fP s.view.epoch vt.ballot)
def lP(s:MS δ)(vt:VoteT):MS δ:=if vt.putting then jJ K s vt else lw K s vt
def eI(s:MS δ):BallotT:=⟨fR (s.round+1),s.id⟩
def nY(s:MS δ)(c:ChangeT):MS δ:=la (dB (vC (dN K s (ik s.view.epoch (eI s))) (cb s.acc s.view.epoch (eI s)).1) (eI s).round) (jv s.view (eI s) c)
def bW(s:MS δ)(c:ChangeT):MS δ×Int:=
 if(cb s.acc s.view.epoch (eI s)).2=false then(s,6)else if tY K s (ik s.view.epoch (eI s))≠0 then(dN K s (ik s.view.epoch (eI s)),tY K s (ik s.view.epoch (eI s)))else(nY K s c,0)
def fI(s:MS δ)(c:ChangeT):Int:=if(dW s.view c).2=0∧s.vote.isSome=true then 8 else(dW s.view c).2
def dD(s:MS δ)(op:Int)(c:ChangeT):MS δ×Int:=
 if fI s c≠0 then(dp s op (fI s c) 0,fI s c)
 else if(bW K s c).2≠0 then(dp (bW K s c).1 op (bW K s c).2 0,(bW K s c).2)
 else(lP K (dp (bW K s c).1 op 0 0) (jv s.view (eI s) c),0)
def cS(s:MS δ)(o:OpT):RowT×Int×Int:=iD (s.rep .nil) o
def bo(s:MS δ):MS δ:= {s with ops:=fR (s.ops+1)}
def l9(s:MS δ)(o:OpT):MS δ×Int:=
 if(cS s o).2.2≠0∨o.kind=3 then(dp s s.ops (cS s o).2.2 (cS s o).2.1,(cS s o).2.2)
 else if(dX K s (cS s o).1 s.ops).2≠0 then(dp (dX K s (cS s o).1 s.ops).1 s.ops (dX K s (cS s o).1 s.ops).2 0,(dX K s (cS s o).1 s.ops).2)
 else((dX K s (cS s o).1 s.ops).1,0)
def bL(s:MS δ)(o:OpT):MS δ×Int:=if jr s.view s.id&&decide (o.kind=4)then dD K (bo s) (bo s).ops o.change else l9 K (bo s) o
def fS(s:MS δ)(from':Int)(m:MsgT):MS δ:=
 if m.kind=0 then gH K s from' m else if m.kind=1 then dv K s from' m else if m.kind=2 then A7 s m.whose m.row
 else if m.kind=7 then gP K s m.view else if m.kind=8 then jj K s from' m else if m.kind=9 then eT K s from' m
 else if m.kind=3 then qI K s from' m else if m.kind=4 then px K s from' m else if m.kind=5 then qH K s from' m else if m.kind=6 then pw K s from' m else s
def bX(s:MS δ):MS δ:=pR K (lC K (if s.busy=true then eY K s else s))
def cj(s:MS δ):MS δ:=if 1<s.view.epoch then lU K s s.view else s
def fU(s:MS δ):MS δ:=if 0< (cD s.book s.id).version then kO K s (cD s.book s.id)else s
def oS(s:MS δ):MS δ:=match s.vote with
 |none=>s
 |some vt=>if(dW s.view vt.change).2=0 then(if(bW K s vt.change).2=0 then lP K (bW K s vt.change).1 (jv s.view (eI s) vt.change)else(bW K s vt.change).1)else s
def gG(s:MS δ):MS δ:=if jr (cj K (bX K s)).view (cj K (bX K s)).id then oS K (fU K (cj K (bX K s)))else cj K (bX K s)
def im(s:MS δ)(m:RecT):MS δ:=
 if m.kind=0 then {s with own:=m.row,busy:=true,kept:=0}
 else if m.kind=1 then iz s m.whose m.row
 else if m.kind=2 then lD s m.whose
 else if m.kind=3 then {s with acc:= {s.acc with vow:=m.ballot},round:=max s.round m.ballot.round}
 else if m.kind=4 then {s with acc:= {s.acc with vow:=m.ballot,had:=m.ballot,change:=m.change},round:=max s.round m.ballot.round}
 else if m.kind=5 then lB s m.view
 else s
def gN:List (List UInt8)→MS δ→Option (MS δ)
 | [],s=>some s
 |b::bs,s=>if(fO b).2≠0 then none else gN bs (im s (fO b).1)
def GX(id:Int)(e:δ):MS δ:=⟨id, .zero, .zero, .zero, .zero,0,none, .zero,false,0,0,0,[], #v[0,0,0,0,0], #v[RowT.zero,RowT.zero,RowT.zero,RowT.zero,RowT.zero],e,[]⟩
def yi(id:Int)(e:δ):MS δ:=lB (GX id e) firstV
theorem Ix{ls:List (List UInt8)}{k:Nat}{s:MS δ}(h:k<ls.length)(g:(fO ls[k]).2≠0):gN (ls.drop k) s=none:=by
 rw[dK h,gN,if_pos g]
theorem Kt{ls:List (List UInt8)}{k:Nat}{s:MS δ}(h:k<ls.length)(g: ¬(fO ls[k]).2≠0):gN (ls.drop k) s=gN (ls.drop (k+1)) (im s (fO ls[k]).1):=by
 rw[dK h,gN,if_neg g]
end Api
end

section
namespace Api
open Go Leg Codec
theorem yE: ∀(a b:List CellT),a.length=b.length→bS a=bS b→a=b
 | [],[],_,_=>rfl
 | [],_::_,h,_=>by cases h
 |_::_,[],h,_=>by cases h
 |x::a,y::b,h,e=>by
  simp only[bS,cQ]at e;obtain⟨h1,h2⟩:=List.append_inj e (by simp[CellT.flat]);rw[Jj h1,yE a b (by simpa using h) h2]
theorem AM{v w:Vector CellT 4}(h:bS v.toList=bS w.toList):v=w:=Vector.toList_inj.1 (yE _ _ (by simp) h)
theorem tn{n:Int}(h:(Lit.int .i64 n).wf=true): -9223372036854775808≤n∧n<9223372036854775808:=by
 have m1:IntKind.i64.min= -9223372036854775808:=by decide
 have m2:IntKind.i64.max=9223372036854775807:=by decide
 simp only[Lit.wf,m1,m2,ay,decide_eq_true_eq]at h;omega
theorem Fc: ∀(l:List Int) (s:Int),(s7 l s).2=0→∀n∈l,F0 n=true
 | [],_,_,n,hn=>by cases hn
 |a::l,s,h,n,hn=>by
  rw[s7]at h
  by_cases h1:F0 a=true
  · rw[if_pos h1]at h
    by_cases h2:a>1099511627776-s
    · rw[if_pos h2]at h;cases h
    · rw[if_neg h2]at h
      rcases cg.1 hn with rfl|hn
      · exact h1
      · exact Fc l _ h n hn
  · rw[if_neg h1]at h;cases h
theorem tm{n:Int}{l:List Int}(h:0≤n∧n<9223372036854775808)(hl:WF l):WF (n::l):=λm hm=>by
 rcases cg.1 hm with rfl|hm
 · exact tl h
 · exact hl m hm
theorem mJ{a b:List Int}(ha:WF a)(hb:WF b):WF (a++b):=λm hm=>by
 rcases bP.1 hm with hm|hm
 · exact ha m hm
 · exact hb m hm
theorem JP:WF []:=λ_ h=>by cases h
theorem OkB.wf{b:BallotT}(h:OkB b):WF b.flat:=tm h.1 (tm ⟨h.2.1,by have:=h.2.2;omega⟩ JP)
theorem OkC.wf{c:ChangeT}(h:OkC c):WF c.flat:=tm ⟨h.1.1,by have:=h.1.2;omega⟩ (tm ⟨h.2.1.1,by have:=h.2.1.2;omega⟩ (tm ⟨h.2.2.1,by have:=h.2.2.2;omega⟩ JP))
theorem Q9:Nm 0:=⟨by decide,by decide⟩
theorem uz(m:MsgT):(dy m).length≤3000:=by
 have h1:=iT m.row;have h2:=aY m.ballot.flat;have h3:=aY m.had.flat;have h4:=aY m.change.flat;have h5:=aY m.view.flat;have h6:=aY [m.kind,m.whose];have h7:=aY [m.kind,m.version];have h8:=aY [m.kind,m.epoch];have h9:=aY [m.kind];simp only[BallotT.flat,ChangeT.flat,ViewT.flat,ah,ao,aB]at h2 h3 h4 h5 h6 h7 h8 h9;unfold dy;split
 · simp only[ac];omega
 split
 · omega
 split
 · simp only[ac,BallotT.flat];omega
 split
 · simp only[ac,BallotT.flat,ChangeT.flat];omega
 split
 · simp only[ac,BallotT.flat,ChangeT.flat];omega
 split
 · simp only[ac,ViewT.flat];omega
 split
 · simp only[ac,ViewT.flat];omega
 · simp
theorem qT:fF RowT.zero=true:=by decide+kernel
theorem Mx{m:RecT}{bs r:List UInt8}(h:dE bs=some ((m,true),r)):fF m.row=true:=by
 obtain⟨k,r1,_,h⟩:=bp h;split at h
 · obtain⟨_,_,_,h⟩:=bp h
   obtain⟨e,_⟩:=fZ h;injection e with e1 e2;subst e1;exact e2
 split at h
 · obtain⟨_,_,_,h⟩:=bp h
   obtain⟨_,_,_,h⟩:=bp h;obtain⟨e,_⟩:=fZ h;injection e with e1 e2;subst e1;exact e2
 have fin: ∀{m':RecT} {g:Bool} {b r:List UInt8},pr (m',g) b=some ((m,true),r)→m'.row= .zero→fF m.row=true:=λh e=>by
  obtain⟨e',_⟩:=fZ h;injection e' with e1 e2;subst e1;rw[e];exact qT
 split at h
 · obtain⟨_,_,_,h⟩:=bp h;exact fin h rfl
 split at h
 · obtain⟨_,_,_,h⟩:=bp h;obtain⟨_,_,_,h⟩:=bp h;exact fin h rfl
 split at h
 · obtain⟨_,_,_,h⟩:=bp h;obtain⟨_,_,_,h⟩:=bp h;obtain⟨_,_,_,h⟩:=bp h;exact fin h rfl
 split at h
 · obtain⟨_,_,_,h⟩:=bp h;exact fin h rfl
 · exact fin h rfl
theorem Lw(bs:List UInt8):(∃m,fO bs=(m,0)∧bs=gy m∧fF m.row=true∧WF m.row.flat)∨fO bs=(.zero,1):=by
 unfold fO;split
 · rename_i m h
   obtain⟨h1,_,_,_,h5⟩:=xS h;rw[aL]at h1;exact .inl ⟨m,rfl,h1,Mx h,h5.wf⟩
 · exact .inr rfl
open Dsk Wal
theorem uy(m:RecT):(gy m).length≤3000:=by
 have h1:=iT m.row;have h2:=aY m.ballot.flat;have h4:=aY m.change.flat;have h5:=aY m.view.flat;have h6:=aY [m.kind,m.whose];have h8:=aY [m.kind,m.epoch];have h9:=aY [m.kind];simp only[BallotT.flat,ChangeT.flat,ViewT.flat,ah,ao,aB]at h2 h4 h5 h6 h8 h9;unfold gy
 repeat' split
 all_goals first|omega| (simp only[ac,BallotT.flat,ChangeT.flat,ViewT.flat,ao];omega)
abbrev rz(n:Int):Prop:= -9223372036854775808≤n∧n<9223372036854775808
theorem oe{n:Int}(h:rz n):(Lit.int .i64 n).wf=true:=by
 have m1:IntKind.i64.min= -9223372036854775808:=by decide
 have m2:IntKind.i64.max=9223372036854775807:=by decide
 simp only[Lit.wf,m1,m2,ay,decide_eq_true_eq];omega
theorem k8(n:Int):rz (fR n):=by
 unfold fR rz;simp only[IntKind.wrap,IntKind.bits,IntKind.signed];simp;omega
structure CW(c:CellT):Prop where
 inn:rz c.inn
 out:rz c.out
 given: ∀(j:Nat) (h:j<5),rz c.given[j]
class OkRow(y:RowT):Prop where
 version:rz y.version
 cells: ∀(k:Nat) (h:k<4),CW y.cells[k]
 heir: ∀(i:Nat) (h:i<5),rz y.heir[i]
 left: ∀(i k:Nat) (h:i<5) (g:k<4),CW y.left[i][k]
theorem tB{α:Type}{n:Nat}{v:Vector α n}{x:α}(h:x∈v.toList): ∃(j:Nat) (h:j<n),x=v[j]:=by
 obtain⟨j,hj,rfl⟩:=fB h;rw[aB]at hj;exact⟨j,hj,by simp⟩
theorem Hj{α:Type}{n:Nat}(v:Vector α n)(j:Nat)(h:j<n):v[j]∈v.toList:=by simp
theorem nt{m:Nat}{v:Vector CellT m}(h: ∀(k:Nat) (h:k<m),CW v[k]):WF (bS v.toList):=λn hn=>by
 obtain⟨c,hc,hn⟩:=kB.1 hn;obtain⟨k,hk,rfl⟩:=tB hc;simp only[CellT.flat,cg]at hn;rcases hn with rfl|rfl|hn
 · exact oe (h k hk).inn
 · exact oe (h k hk).out
 · obtain⟨j,hj,rfl⟩:=tB hn
   exact oe ((h k hk).given j hj)
theorem OkRow.wf{x:RowT}(h:OkRow x):WF x.flat:=λn hn=>by
 simp only[RowT.flat,cg,bP]at hn;rcases hn with rfl|hn|hn|hn
 · exact oe h.version
 · exact nt h.cells n hn
 · obtain⟨j,hj,rfl⟩:=tB hn
   exact oe (h.heir j hj)
 · obtain⟨v,hv,hn⟩:=kB.1 hn
   obtain⟨j,hj,rfl⟩:=tB hv;exact nt (λk hk=>h.left j k hj hk) n hn
abbrev L4:= @OkRow.wf
theorem CW.of{m:Nat}{v:Vector CellT m}(h:WF (bS v.toList))(k:Nat)(hk:k<m):CW v[k]:=by
 have q: ∀n∈v[k].flat,rz n:=λn hn=>tn (h n (kB.2 ⟨_,Hj v k hk,hn⟩))
 exact⟨q _ (by simp[CellT.flat]),q _ (by simp[CellT.flat]),λj hj=>q _ (by simp[CellT.flat])⟩
theorem OkRow.of{x:RowT}(h:WF x.flat):OkRow x:=
 ⟨tn (h _ (by simp[RowT.flat])),CW.of λn hn=>h n (by simp[RowT.flat,hn]),λi hi=>tn (h _ (by simp[RowT.flat])),
  λi k hi hk=>CW.of (λn hn=>h n (by simp only[RowT.flat,cg,bP,kB];exact .inr (.inr (.inr ⟨_,Hj x.left i hi,hn⟩)))) k hk⟩
class OkVw(v:ViewT):Prop where
 rng:Rng v
 wf:WF v.flat
class OkVt(v:VoteT):Prop where
 view:OkVw v.view
 ballot:WF v.ballot.flat
 change:WF v.change.flat
 best:WF v.best.flat
class OkMg(m:MsgT):Prop where
 row:OkRow m.row
 view:OkVw m.view
 ballot:WF m.ballot.flat
 had:WF m.had.flat
 change:WF m.change.flat
variable {δ:Type}
class OkR(K:outParam (Dk δ))(s:MS δ):Prop where
 e:K.ok s.e
 id:cO s.id=true
 view:OkVw s.view
 own:OkRow s.own
 mir: ∀(i:Nat) (h:i<5),OkRow s.mirror.rows[i]
 book: ∀(i:Nat) (h:i<5),OkRow s.book.rows[i]
 last: ∀(i:Nat) (h:i<5),OkRow s.last[i]
 acc:WF s.acc.flat
 vote: ∀vt,s.vote=some vt→OkVt vt
variable {K:Dk δ}
instance OkRow.zero:OkRow RowT.zero:=OkRow.of tame_rzero.wf
theorem CW.zero:CW .zero:=⟨by decide,by decide,λj hj=>by
 match j,hj with
 |0,_|1,_|2,_|3,_|4,_=>exact⟨(by decide:(-9223372036854775808:Int)≤0),(by decide:(0:Int)<9223372036854775808)⟩⟩
instance {s:MS δ}[h:OkR K s]:OkRow s.own:=h.own
instance {s:MS δ}[h:OkR K s]:OkVw s.view:=h.view
instance {m:MsgT}[h:OkMg m]:OkRow m.row:=h.row
instance {m:MsgT}[h:OkMg m]:OkVw m.view:=h.view
theorem og{α:Type}{n:Nat}{p:α→Prop}{v:Vector α n}{i:Nat}(hi:i<n){x:α}(h: ∀(j:Nat) (hj:j<n),p v[j])(hx:p x)(j:Nat)(hj:j<n):p (v.set i x hi)[j]:=by
 rw[Vector.getElem_set];split
 · exact hx
 · exact h j hj
instance {s:MS δ}[h:OkR K s](w:Int):OkRow (dF s.mirror w):=by unfold dF;split;exact h.mir _ _;exact .zero
instance {s:MS δ}[h:OkR K s](w:Int):OkRow (cD s.book w):=by unfold cD;split;exact h.book _ _;exact .zero
instance {s:MS δ}[h:OkR K s](w:Int):OkRow (lY s w):=by unfold lY;split;exact h.last _ _;exact .zero
theorem vv{x:RowT}[h:OkRow x](key:Int):CW (dT x key):=by unfold dT;split;exact h.cells _ _;exact .zero
theorem Jg{x:RowT}[h:OkRow x](i:Int):rz (fb x i):=by unfold fb;split;exact h.heir _ _;exact⟨by decide,by decide⟩
theorem I7{x:RowT}[h:OkRow x](i:Int)(k:Nat)(hk:k<4):CW (yr x i)[k]:=by unfold yr;split;exact h.left _ _ _ _;exact OkRow.zero.cells k hk
theorem yk{x:RowT}[h:OkRow x]{key n counts:Int}{c:CellT}(hc:CW c):OkRow (ka x key n counts c).1:=by
 unfold ka;split
 · exact .zero
 · refine⟨k8 _,λk hk=>?_,λi hi=>?_,λi k hi hk=>?_⟩
   · show CW (l6 x key c).cells[k]
     unfold l6;split
     · exact og (p:=CW) (B8 (by assumption)) h.cells hc k hk
     · exact h.cells k hk
   · show rz (l6 x key c).heir[i]
     unfold l6;split<;>exact h.heir i hi
   · show CW (l6 x key c).left[i][k]
     unfold l6;split<;>exact h.left i k hi hk
instance {x:RowT}[OkRow x](key n:Int):OkRow (oE x key n).1:=by
 unfold oE;split
 · have:=vv (x:=x) key
   exact yk ⟨k8 _,this.out,this.given⟩
 · exact .zero
instance {x:RowT}[OkRow x](key n:Int):OkRow (oF x key n).1:=by
 unfold oF;split
 · have:=vv (x:=x) key
   exact yk ⟨this.inn,k8 _,this.given⟩
 · exact .zero
instance {x:RowT}[OkRow x](key n to':Int):OkRow (ln x key n to').1:=by
 unfold ln;split
 · have:=vv (x:=x) key
   refine yk ?_;unfold yC;split
   · exact⟨this.inn,this.out,og (p:=rz) (fy (by assumption)) this.given (k8 _)⟩
   · exact this
 · exact .zero
theorem xz{x:RowT}(h:OkRow x){w v:Int}{l:Vector CellT 4}(hv:rz v)(hl: ∀(k:Nat) (h:k<4),CW l[k]):OkRow (m5 x w v l):=by
 unfold m5;split
 · exact⟨h.version,h.cells,og (p:=rz) (fy (by assumption)) h.heir hv,λi k hi hk=>og (p:=λu:Vector CellT 4=>CW u[k]) (fy (by assumption)) (λj hj=>h.left j k hj hk) (hl k hk) i hi⟩
 · exact h
instance {x d:RowT}[h:OkRow x][g:OkRow d](who:Int):OkRow (cX x who d).1:=by
 have q: ∀k,OkRow (nT x who d k):=λk=>by
  induction k with
  |zero=>exact xz h (k8 _) g.cells
  |succ k ih=>
   have e:nT x who d (k+1)=nc who d (nT x who d k) k:=by unfold nT;rw[dh,e5];rfl
   rw[e];unfold nc;split
   · exact xz ih (Jg _) (I7 _)
   · exact ih
 unfold cX;split
 · exact .zero
 split
 · exact .zero
 · exact⟨k8 _,(q 5).cells,(q 5).heir,(q 5).left⟩
instance {s:MS δ}[h:OkR K s](l:List Int):OkRow (nU s l):=by
 have: ∀(l:List Int) (x:RowT),OkRow x→OkRow (l.foldl (λx i=>if 0<fb x i then x else(cX x i (lY s i)).1) x):=λl=>by
  induction l with
  |nil=>exact λx hx=>hx
  |cons i l ih=>exact λx hx=>ih _ (by dsimp only;split;exact hx;exact inferInstance)
 exact this l _ h.own
instance {s:MS δ}[h:OkR K s](o:OpT):OkRow (cS s o).1:=by
 have:OkRow (gd (s.rep .nil) o).1:=by
  unfold gd
  repeat' split
  all_goals first|exact .zero|exact inferInstanceAs (OkRow (oE s.own _ _).1)|exact inferInstanceAs (OkRow (oF s.own _ _).1)|exact inferInstanceAs (OkRow (ln s.own _ _ _).1)
 unfold cS iD
 repeat' split
 all_goals first|exact .zero|exact this
theorem yy{l:List Int}{k:Nat}(h:k<l.length):(ints l)[k]?=some (.int .i64 (l.getD k 0)):=by simp[ints,h,List.getD_eq_getElem?_getD]
theorem pM(s:MS δ)(k:Nat):iH s (k+1)=iH s k++(if EC s k then [((k:Nat):Int)]else []):=by
 unfold iH;rw[dh,List.filter_append,cJ]
 by_cases h:EC s k=true<;>simp[h]
theorem xx(b:Int)(k:Nat):kQ b (k+1)=kQ b k++(if Jz b ((k:Nat):Int)then [((k:Nat):Int)]else []):=by
 unfold kQ;rw[dh,List.filter_append,cJ]
 by_cases h:Jz b ((k:Nat):Int)=true<;>simp[h]
theorem uY(b:Int)(k:Nat):(kQ b k).length≤k:=by
 unfold kQ;rw[bQ];exact tg (p7 _ _) (by simp)
theorem vm{v:ViewT}{w i:Int}(h:(jQ v w).isSome=true)(g:(jQ v w).getD 0=i):jQ v w=some i:=by
 cases q:jQ v w with
 |none=>rw[q]at h;cases h
 |some z=>rw[q]at g;rw[←g];rfl
theorem Cd{s:MS δ}{k:Nat}(h:EC s k=true):jQ s.view ((k:Nat):Int)=some s.id∧fb s.own ((k:Nat):Int)≤0:=by
 unfold EC at h;rw[ay,decide_eq_true_iff,decide_eq_true_iff]at h;exact h
theorem OQ{s:MS δ}{k:Nat}(h1:(jQ s.view ((k:Nat):Int)).isSome=true)(h2:(jQ s.view ((k:Nat):Int)).getD 0=s.id)(h3:fb s.own ((k:Nat):Int)≤0):EC s k=true:=by
 unfold EC;rw[ay,decide_eq_true_iff,decide_eq_true_iff];refine⟨?_,h3⟩;cases q:jQ s.view ((k:Nat):Int)with
 |none=>rw[q]at h1;cases h1
 |some z=>rw[q]at h2;rw[←h2];rfl
theorem AR(s:MS δ)(k:Nat):(iH s k).length≤k:=by
 unfold iH;rw[bQ];exact tg (p7 _ _) (by simp)
theorem OJ{x d:RowT}{who:Int}(h:cO who=true)(h2: ¬0<fb x who):(cX x who d).2=0:=by
 rw[cX,h,if_neg (by decide),if_neg h2]
theorem ES(K:Dk δ){l:List Int}{q:Nat}(h:q<l.length)(s:MS δ):gg K (l.take (q+1)) s=lE K (gg K (l.take q) s) (l.getD q 0):=by
 unfold gg;rw[bU h,e5,List.getD_eq_getElem?_getD,List.getElem?_eq_getElem h];rfl
theorem wg(s:MS δ){l:List Int}{q:Nat}(h:q<l.length):nU s (l.take (q+1))=(if 0<fb (nU s (l.take q)) (l.getD q 0)then nU s (l.take q)else(cX (nU s (l.take q)) (l.getD q 0) (lY s (l.getD q 0))).1):=by
 unfold nU;rw[bU h,e5,List.getD_eq_getElem?_getD,List.getElem?_eq_getElem h];rfl
theorem uB{s:MS δ}{i:Int}(h:i∈bE s):cO i=true∧jQ s.view i=some s.id∧fb s.own i≤0:=by
 unfold bE iH at h;rw[eH]at h;obtain⟨k,hk,rfl⟩:=h;rw[O2,ei]at hk;have h2:=hk.2;unfold EC at h2;rw[ay,decide_eq_true_iff,decide_eq_true_iff]at h2;exact⟨decide_eq_true ⟨by omega,by omega⟩,h2.1,h2.2⟩
theorem hJ(x:RowT){k:Nat}(h:k<5):fb x ((k:Nat):Int)=x.heir[k]:=by
 rw[fb,dif_pos (show cO ((k:Nat):Int)=true from decide_eq_true ⟨by omega,by omega⟩)];rfl
theorem JO(w:Int):(iw w).length≤1000000:=by unfold iw;split<;>simp
theorem Hn{k:Nat}(h:k<5):cO ((k:Nat):Int)=true:=decide_eq_true ⟨by omega,by omega⟩
theorem I8(x:RowT){k:Nat}(h:k<5):yr x ((k:Nat):Int)=x.left[k]:=by
 rw[yr,dif_pos (Hn h)];rfl
theorem FO(x:RowT){k:Nat}(h:k<5)(v:Int)(l:Vector CellT 4):m5 x ((k:Nat):Int) v l= {x with heir:=x.heir.set k v h,left:=x.left.set k l h}:=by
 rw[m5,dif_pos (Hn h)];rfl
theorem nS(x:RowT)(who:Int)(dead:RowT)(k:Nat):nT x who dead (k+1)=nc who dead (nT x who dead k) k:=by unfold nT;rw[dh,e5];rfl
instance OkVw.first:OkVw firstV:=⟨Rng.first,λn hn=>by
 have h:n∈[(1:Int),7,0,0,0,0,0]:=hn;simp only[cg,List.not_mem_nil,or_false,or_self]at h
 rcases h with rfl|rfl|rfl<;>decide⟩
instance OkVw.zero:OkVw ViewT.zero:=⟨Rng.zero,λn hn=>by
 have h:n∈[(0:Int),0,0,0,0,0,0]:=hn;simp only[cg,List.not_mem_nil,or_false,or_self]at h
 rcases h with rfl;decide⟩
theorem Fz{v:ViewT}(h1:rz v.epoch)(h2:rz v.members)(hr:Rng v):WF v.flat:=λn hn=>by
 simp only[ViewT.flat,cg]at hn;rcases hn with rfl|rfl|hn
 · exact oe h1
 · exact oe h2
 · obtain⟨j,hj,rfl⟩:=tB hn
   have:=hr j hj;exact oe ⟨by omega,by omega⟩
theorem tk(n:Int):rz (IntKind.i64.wrap n):=k8 n
instance OkVw.next{v:ViewT}[h:OkVw v](c:ChangeT):OkVw (dW v c).1:=by
 unfold dW;split
 · exact .zero
 split
 · split
   · exact .zero
   · exact⟨h.rng,Fz (tk _) (tk _) h.rng⟩
 split
 · split
   · exact .zero
   · have hr:Rng ⟨IntKind.i64.wrap (v.epoch+1),np .i64 v.members (2^c.who.toNat),sS v c⟩:=λi hi=>by
      show 0≤(sS v c)[i]∧(sS v c)[i]≤5;unfold sS;rw[Vector.getElem_mapIdx];unfold vj;split
      · have hm:cO c.heir=true:=by
         rename_i q _ _ _ _;simp only[O4,Bool.not_eq_true',not_or,Bool.not_eq_false]at q;exact q.2
        have hm2:0≤c.heir∧c.heir<5:=of_decide_eq_true hm;omega
      · exact h.rng i hi
     exact⟨hr,Fz (tk _) (tk _) hr⟩
 · exact .zero
theorem LP{b:BallotT}(h1:rz b.round)(h2:rz b.who):WF b.flat:=λn hn=>by
 have h:n∈[b.round,b.who]:=hn;simp only[cg,List.not_mem_nil,or_false]at h;rcases h with rfl|rfl
 · exact oe h1
 · exact oe h2
theorem iq:WF BallotT.zero.flat:=LP (by decide) (by decide)
theorem qb:WF ChangeT.zero.flat:=λn hn=>by
 have h:n∈[(0:Int),0,0]:=hn;simp only[cg,List.not_mem_nil,or_false,or_self]at h;rcases h with rfl;decide
instance OkMg.sealed(w:Int)(y:RowT)[h:OkRow y]:OkMg (iC w y):=⟨h, .zero,iq,iq,qb⟩
instance OkMg.sealW(w:Int)(v:ViewT)[h:OkVw v]:OkMg (pA w v):=⟨.zero,h,iq,iq,qb⟩
section
variable {s:MS δ}
instance [h:OkR K s](l:List SaidT):OkR K (ja K s l):=⟨h.e,h.id,h.view,h.own,h.mir,h.book,h.last,h.acc,h.vote⟩
instance {p:Prop}[Decidable p]{a b:MS δ}[ha:OkR K a][hb:OkR K b]:OkR K (if p then a else b):=by split;exact ha;exact hb
instance {f:MS δ→MS δ}{t:Int}{m:MsgT}[h:OkR K s][hf:OkR K (f s)]:OkR K (lO K f s t m):=by
 unfold lO;split
 · exact hf
 · exact⟨h.e,h.id,h.view,h.own,h.mir,h.book,h.last,h.acc,h.vote⟩
instance [h:OkR K s](t:Int)(m:MsgT):OkR K (BE K s t m):=inferInstanceAs (OkR K (ja K s _))
instance [h:OkR K s](r:RecT):OkR K (dN K s r):=⟨K.sure _ _ h.e (uy r),h.id,h.view,h.own,h.mir,h.book,h.last,h.acc,h.vote⟩
instance [h:OkR K s](a b c:Int):OkR K (dp s a b c):=⟨h.e,h.id,h.view,h.own,h.mir,h.book,h.last,h.acc,h.vote⟩
instance [h:OkR K s]:OkR K (bo s):=⟨h.e,h.id,h.view,h.own,h.mir,h.book,h.last,h.acc,h.vote⟩
instance [h:OkR K s](f:Int):OkR K (iM s f):=⟨h.e,h.id,h.view,h.own,h.mir,h.book,h.last,h.acc,h.vote⟩
instance [h:OkR K s]:OkR K (lM s):=⟨h.e,h.id,h.view,h.own,h.mir,h.book,h.last,h.acc,h.vote⟩
theorem Ar{b:BookT}{w:Int}{x:RowT}(h: ∀(i:Nat) (h:i<5),OkRow b.rows[i])(hx:OkRow x): ∀(i:Nat) (h:i<5),OkRow (fh b w x).1.rows[i]:=by
 unfold fh;split
 · unfold x7
   split
   · exact og (p:=OkRow) (fy (by assumption)) h hx
   · exact h
 · exact h
instance OkR.merge[h:OkR K s](w:Int)(x:RowT)[hx:OkRow x]:OkR K (A7 s w x):=⟨h.e,h.id,h.view,h.own,h.mir,Ar h.book hx,h.last,h.acc,h.vote⟩
instance [h:OkR K s]:OkR K (gR s):=⟨h.e,h.id,h.view,h.own,h.mir,Ar h.book h.own,h.last,h.acc,h.vote⟩
theorem F8{b:MirT}{w:Int}{x:RowT}(h: ∀(i:Nat) (h:i<5),OkRow b.rows[i])(hx:OkRow x): ∀(i:Nat) (h:i<5),OkRow (m9 b w x).1.rows[i]:=by
 unfold m9;split
 · unfold B5
   split
   · exact og (p:=OkRow) (fy (by assumption)) h hx
   · exact h
 · exact h
instance [h:OkR K s](w:Int)(x:RowT)[hx:OkRow x]:OkR K (iz s w x):=⟨h.e,h.id,h.view,h.own,F8 h.mir hx,h.book,h.last,h.acc,h.vote⟩
instance [h:OkR K s](w:Int):OkR K (lD s w):=⟨h.e,h.id,h.view,h.own,λi hi=>by
 show OkRow (o9 s.mirror w).rows[i]
 unfold o9;split<;>exact h.mir i hi,h.book,h.last,h.acc,h.vote⟩
instance [h:OkR K s](x:RowT)[hx:OkRow x](op:Int):OkR K (q8 s x op):=⟨h.e,h.id,h.view,hx,h.mir,h.book,h.last,h.acc,h.vote⟩
instance [OkR K s]:OkR K (eY K s):=inferInstanceAs (OkR K (ja K s _))
instance [OkR K s](y:RowT):OkR K (kO K s y):=inferInstanceAs (OkR K (ja K s _))
instance [OkR K s](v:ViewT):OkR K (lU K s v):=inferInstanceAs (OkR K (ja K s _))
instance [OkR K s](m:MsgT):OkR K (jq K s m):=inferInstanceAs (OkR K (ja K s _))
instance [OkR K s](x:RowT)[OkRow x](op:Int):OkR K (dX K s x op).1:=by unfold dX;split<;>exact inferInstance
instance [h:OkR K s]:OkR K (lC K s):=by
 unfold lC;split
 · exact h
 split
 · exact inferInstance
 · exact h
instance [OkR K s]:OkR K (kw K s):=by unfold kw;exact inferInstance
instance [h:OkR K s](f:Int)(m:MsgT):OkR K (dv K s f m):=by
 unfold dv
 repeat' split
 all_goals exact inferInstance
instance [h:OkR K s](f:Int)(m:MsgT)[OkMg m]:OkR K (gH K s f m):=by
 unfold gH
 repeat' split
 all_goals exact inferInstance
theorem Mr{v:Vector RowT 5}{w:Int}{x:RowT}(h: ∀(i:Nat) (h:i<5),OkRow v[i])(hx:OkRow x): ∀(i:Nat) (h:i<5),OkRow (Dx v w x)[i]:=by
 unfold Dx;split
 · exact og (p:=OkRow) (fy (by assumption)) h hx
 · exact h
instance [h:OkR K s](w:Int)(x:RowT)[hx:OkRow x]:OkR K (mr s w x):=⟨h.e,h.id,h.view,h.own,h.mir,h.book,by
 show ∀(i:Nat) (h:i<5),OkRow (if sC s w=0∨(lY s w).version<x.version then Dx s.last w x else s.last)[i];split
 · exact Mr h.last hx
 · exact h.last,h.acc,h.vote⟩
instance [OkR K s](f w:Int)(y:RowT)[OkRow y]:OkR K (tG s f w y):=by
 have h:OkR K (mr s w y):=inferInstance;exact⟨h.e,h.id,h.view,h.own,h.mir,h.book,h.last,h.acc,h.vote⟩
instance [h:OkR K s](f:Int)(m:MsgT)[OkMg m]:OkR K (eT K s f m):=by unfold eT;split<;>exact inferInstance
theorem xC[OkR K s]{f:MS δ→MS δ}(hf:OkR K (f s))(t:Int)(m:MsgT):OkR K (lO K f s t m):=by unfold lO;split;exact hf;exact inferInstance
instance [h:OkR K s](f w:Int):OkR K (eL K s f w):=by
 unfold eL
 repeat' split
 · exact h
 · exact xC inferInstance _ _
 · exact inferInstance
 · exact xC inferInstance _ _
instance [h:OkR K s](i w:Int):OkR K (gz K s i w):=by
 unfold gz;split
 · exact h
 · exact xC inferInstance _ _
instance [OkR K s](i:Int):OkR K (lE K s i):=by unfold lE;exact inferInstance
theorem vu: ∀(l:List Int) (s:MS δ),OkR K s→OkR K (gg K l s)
 | [],_,h=>h
 |i::l,s,h=>vu l (lE K s i) inferInstance
instance [h:OkR K s]:OkR K (pR K s):=vu _ _ h
theorem QF(n:Int)(h:rz n):WF ({AccT.zero with epoch:=n}:AccT).flat:=λk hk=>by
 have q:k∈[n,0,0,0,0,0,0,0]:=hk;simp only[cg,List.not_mem_nil,or_false,or_self]at q;rcases q with rfl|rfl
 · exact oe h
 · decide
instance [h:OkR K s](v:ViewT)[hv:OkVw v]:OkR K (lB s v):=⟨h.e,h.id,hv,h.own,h.mir,h.book,h.last,QF _ (tn (hv.wf _ (by simp[ViewT.flat]))),λ_ e=>nomatch e⟩
instance [h:OkR K s](v:ViewT)[OkVw v]:OkR K (gP K s v):=by
 unfold gP
 repeat' split
 all_goals exact inferInstance
instance [h:OkR K s](f:Int)(m:MsgT)[OkMg m]:OkR K (jj K s f m):=by unfold jj;exact inferInstance
instance [h:OkR K s](c:ChangeT):OkR K (jw K s c):=by
 unfold jw
 repeat' split
 all_goals exact inferInstance
class OkAc(a:AccT):Prop where wf:WF a.flat
instance [h:OkR K s]:OkAc s.acc:=⟨h.acc⟩
theorem oM{a b:List Int}(h:WF (a++b)):WF a:=λn hn=>h n (Fk _ hn)
theorem uM{a b:List Int}(h:WF (a++b)):WF b:=λn hn=>h n (CA _ hn)
theorem OkAc.vow{a:AccT}(h:OkAc a):WF a.vow.flat:=uM (oM (oM h.wf))
theorem OkAc.had{a:AccT}(h:OkAc a):WF a.had.flat:=uM (oM h.wf)
theorem OkAc.change{a:AccT}(h:OkAc a):WF a.change.flat:=uM h.wf
theorem OkAc.epoch{a:AccT}(h:OkAc a):WF [a.epoch]:=oM (oM (oM h.wf))
theorem OkAc.ask{a:AccT}(h:OkAc a){ep:Int}{b:BallotT}(hb:WF b.flat):OkAc (cb a ep b).1:=by
 unfold cb;split
 · exact h
 · exact⟨mJ (mJ (mJ h.epoch hb) h.had) h.change⟩
theorem OkAc.put{a:AccT}(h:OkAc a){ep:Int}{b:BallotT}{c:ChangeT}(hb:WF b.flat)(hc:WF c.flat):OkAc (gZ a ep b c).1:=by
 unfold gZ;split
 · exact h
 · exact⟨mJ (mJ (mJ h.epoch hb) hb) hc⟩
instance [h:OkR K s](n:Int):OkR K (dB s n):=⟨h.e,h.id,h.view,h.own,h.mir,h.book,h.last,h.acc,h.vote⟩
instance [h:OkR K s](v:VoteT)[hv:OkVt v]:OkR K (la s v):=⟨h.e,h.id,h.view,h.own,h.mir,h.book,h.last,h.acc,λ_ e=>bK e▸hv⟩
instance [h:OkR K s](a:AccT)[ha:OkAc a]:OkR K (vC s a):=⟨h.e,h.id,h.view,h.own,h.mir,h.book,h.last,ha.wf,h.vote⟩
instance {v:VoteT}[h:OkVt v]{m:MsgT}[hm:OkMg m](w:Int):OkVt (eX v w m.ballot m.had m.change).1:=by
 unfold eX;split
 · exact h
 · unfold xg
   split
   · exact⟨h.view,h.ballot,hm.change,hm.had⟩
   · exact⟨h.view,h.ballot,h.change,h.best⟩
instance {v:VoteT}[h:OkVt v](w:Int)(b:BallotT):OkVt (gY v w b).1:=by
 unfold gY;split
 · exact h
 · exact⟨h.view,h.ballot,h.change,h.best⟩
instance {m:MsgT}[hm:OkMg m][h:OkR K s](ep:Int):OkAc (cb s.acc ep m.ballot).1:=OkAc.ask ⟨h.acc⟩ hm.ballot
instance {m:MsgT}[hm:OkMg m][h:OkR K s](ep:Int):OkAc (gZ s.acc ep m.ballot m.change).1:=OkAc.put ⟨h.acc⟩ hm.ballot hm.change
instance tookF_ok[h:OkR K s](f:Int)(m:MsgT):OkR K (kh K f m s):=by
 unfold kh;split
 · exact h
 · rename_i vt hv
   have:=h.vote vt hv;split<;>exact inferInstance
theorem tw[h:OkR K s]{f:MS δ→MS δ}(hf: ∀s:MS δ,OkR K s→OkR K (f s))(w:Int)(m:MsgT):OkR K (ez K f s w m):=by
 unfold ez
 repeat' split
 · exact inferInstance
 · exact h
 · exact h
 · exact hf _ inferInstance
instance [OkR K s](w:Int)(m:MsgT):OkR K (pw K s w m):=tw (λ_ _=>inferInstance) w m
instance [h:OkR K s](w:Int)(m:MsgT):OkR K (kn K w m s):=by unfold kn;exact inferInstance
instance [h:OkR K s](w:Int)(m:MsgT)[OkMg m]:OkR K (mU K w m s):=by
 unfold mU
 repeat' split
 all_goals exact inferInstance
instance [OkR K s](w:Int)(m:MsgT)[OkMg m]:OkR K (qH K s w m):=tw (λ_ _=>inferInstance) w m
instance OkMg.putM(ep:Int){vt:VoteT}[h:OkVt vt]:OkMg (jI ep vt.ballot vt.change):=⟨.zero, .zero,h.ballot,iq,h.change⟩
instance OkMg.askM(ep:Int){vt:VoteT}[h:OkVt vt]:OkMg (fP ep vt.ballot):=⟨.zero, .zero,h.ballot,iq,qb⟩
instance OkMg.takenM(ep:Int){m:MsgT}[h:OkMg m]:OkMg (ki ep m.ballot):=⟨.zero, .zero,h.ballot,iq,qb⟩
theorem OkMg.promM(ep:Int){m:MsgT}[h:OkMg m]{a:AccT}(ha:OkAc a):OkMg (lv ep m.ballot a.had a.change):=⟨.zero, .zero,h.ballot,ha.had,ha.change⟩
theorem vT[h:OkR K s]{f:MS δ→MsgT→MS δ}{m:MsgT}(hf: ∀s:MS δ,OkR K s→OkR K (f s m)):OkR K (hY K f s m):=by
 unfold hY;split
 · exact hf _ inferInstance
 · exact inferInstance
instance [h:OkR K s](vt:VoteT)[OkVt vt]:OkR K (jJ K s vt):=vT λ_ _=>inferInstance
instance [h:OkR K s](f:Int)(m:MsgT)[OkMg m]:OkR K (oA K f m s):=by
 unfold oA;split
 · exact h
 · rename_i vt hv
   have:=h.vote vt hv;split<;>exact inferInstance
instance [OkR K s](w:Int)(m:MsgT)[OkMg m]:OkR K (px K s w m):=tw (λ_ _=>inferInstance) w m
theorem yY[h:OkR K s](w:Int)(m:MsgT)[OkMg m]{a:AccT}(ha:OkAc a):OkR K (kx K w m a s):=by
 have:=OkMg.promM m.epoch (m:=m) ha;unfold kx;exact inferInstance
instance [h:OkR K s](w:Int)(m:MsgT)[OkMg m]:OkR K (nZ K w m s):=by
 unfold nZ
 repeat' split
 · exact h
 · exact inferInstance
 · exact yY w m inferInstance
 · exact yY w m inferInstance
instance [OkR K s](w:Int)(m:MsgT)[OkMg m]:OkR K (qI K s w m):=tw (λ_ _=>inferInstance) w m
instance [h:OkR K s](vt:VoteT)[OkVt vt]:OkR K (lw K s vt):=vT λ_ _=>inferInstance
instance [h:OkR K s](vt:VoteT)[OkVt vt]:OkR K (lP K s vt):=by unfold lP;split<;>exact inferInstance
theorem Fx{v:VoteT}{w:Int}{b had:BallotT}{c:ChangeT}(h:(eX v w b had c).2=true):(eX v w b had c).1.putting=true:=by
 unfold eX at h ⊢;split
 · rename_i q;rw[if_pos q]at h;cases h
 · rename_i q;rw[if_neg q]at h;exact h
theorem JW(s:MS δ)[h:OkR K s]:WF (eI s).flat:=LP (k8 _) (by have:0≤s.id∧s.id<5:=of_decide_eq_true h.id;exact⟨by show _≤s.id;omega,by show s.id<_;omega⟩)
class OkCh(c:ChangeT):Prop where wf:WF c.flat
instance newVote_ok[h:OkR K s](c:ChangeT)[hc:OkCh c]:OkVt (jv s.view (eI s) c):=⟨h.view,JW s,hc.wf,iq⟩
instance {vt:VoteT}[h:OkVt vt]:OkCh vt.change:=⟨h.change⟩
instance [h:OkR K s](c:ChangeT)[OkCh c]:OkR K (nY K s c):=by
 have:OkAc (cb s.acc s.view.epoch (eI s)).1:=OkAc.ask ⟨h.acc⟩ (JW s);unfold nY;exact inferInstance
instance [h:OkR K s](c:ChangeT)[OkCh c]:OkR K (bW K s c).1:=by
 unfold bW
 repeat' split
 all_goals exact inferInstance
theorem sZ{c:ChangeT}(h:(bW K s c).2=0):(bW K s c).1.vote=some (jv s.view (eI s) c):=by
 unfold bW at h ⊢
 by_cases h1:(cb s.acc s.view.epoch (eI s)).2=false
 · rw[if_pos h1]at h;cases h
 by_cases h2:tY K s (ik s.view.epoch (eI s))≠0
 · rw[if_neg h1,if_pos h2]at h;exact absurd h h2
 · rw[if_neg h1,if_neg h2];rfl
instance [h:OkR K s](op:Int)(c:ChangeT)[OkCh c]:OkR K (dD K s op c).1:=by
 unfold dD
 repeat' split
 all_goals exact inferInstance
instance [h:OkR K s](o:OpT):OkR K (l9 K s o).1:=by
 unfold l9
 repeat' split
 all_goals exact inferInstance
instance [h:OkR K s](o:OpT)[OkCh o.change]:OkR K (bL K s o).1:=by unfold bL;split<;>exact inferInstance
instance [h:OkR K s]:OkR K (bX K s):=by unfold bX;exact inferInstance
instance [h:OkR K s]:OkR K (cj K s):=by unfold cj;exact inferInstance
instance [h:OkR K s]:OkR K (fU K s):=by unfold fU;exact inferInstance
instance [h:OkR K s]:OkR K (oS K s):=by
 unfold oS;split
 · exact h
 · rename_i vt hv
   have:=h.vote vt hv
   repeat' split
   all_goals exact inferInstance
instance [h:OkR K s]:OkR K (gG K s):=by unfold gG;exact inferInstance
instance [h:OkR K s](f:Int)(m:MsgT)[OkMg m]:OkR K (fS K s f m):=by
 unfold fS
 repeat' split
 all_goals exact inferInstance
theorem jo(s:MS δ)(c:ChangeT):(bW K s c).1.replies=s.replies:=by
 unfold bW;split
 · rfl
 · split<;>rfl
theorem jZ(s:MS δ)(x:RowT)(op:Int):(dX K s x op).1.replies=s.replies:=by unfold dX;split<;>rfl
end
end Api
end

section
namespace Leg
open Go Codec Api
def WX(P:Program)(ops:Array Oper)(Q:QQ)(is:List Nat)(a:Act)(w:World):Prop:=
 ∀(b:Frame) (k:List Item) (cs:List Frame),∃e a' w',Q e a' w'∧Arrives P (lone (b.at a (.inRegion ops is::k)) cs w) b k cs e a' w'
theorem WX.nil{P:Program}{ops:Array Oper}{Q:QQ}{a:Act}{w:World}(h:Q .normal a w):WX P ops Q [] a w:=
 λ_ _ _=>⟨.normal,a,w,h, .one step_region_end⟩
theorem WX.region{P:Program}{id:Nat}{ops:Array Oper}{Q:QQ}{a:Act}{w:World}(h:WX P ops Q (List.range ops.size) a w):(Code.region id ops false).wp P Q a w:=
 λb k cs=>let ⟨e,a',w',q,r⟩:=h b k cs;⟨e,a',w',q, .of_steps (.one step_region) r⟩
section
variable {P:Program} {ops:Array Oper} {Q:QQ} {is:List Nat} {a:Act} {w:World} {i:Nat} {o:Oper}
theorem HG(b:Frame)(k:List Item)(ho:ops[i]?=some o)(a:Act)(v:Value):(b.at a (.inRegion ops (i::is)::k)).finish v=b.at (a.put o.dst v) (.inRegion ops is::k):=by rw[Frame.finish_at,ho];rfl
theorem WX.value{v:Value}{w1:World}(ho:ops[i]?=some o)(hw:Region.wanted o (yielded ops a.tmps)=true)(hr:(execOp a.eval o).run P w= .ok (.value v) w1)(h:WX P ops Q is (a.put o.dst v) w1):WX P ops Q (i::is) a w:=λb k cs=>by
 obtain⟨e,a',w',q,r⟩:=h b k cs;refine⟨e,a',w',q, .of_steps (.one (step_lone_go ?_)) r⟩;rw[stepG_op ho hw,←HG b k ho];simp[stepG.apply,hr]
theorem WX.comm{v:Value}{w1 w2:World}{cases:Array CommCase}{blocking:Bool}{shape:CommShape}(ho:ops[i]?=some o)(hw:Region.wanted o (yielded ops a.tmps)=true)(hr:(execOp a.eval o).run P w= .ok (.comm cases blocking shape) w1)
 (hs: ∀fr cs es,stepG P true (Conc.G fr cs) w= .comm (Conc.G fr cs) cases blocking shape w1 es→step P (Conc.solo (Conc.G fr cs) w)= .next (Conc.solo (Conc.G (fr.finish v) cs) w2)) (h:WX P ops Q is (a.put o.dst v) w2):WX P ops Q (i::is) a w:=λb k cs=>by
 obtain⟨e,a',w',q,r⟩:=h b k cs;have h1:=stepG_op (P:=P) (b:=b) (k:=k) (cs:=cs) (w:=w) (rest:=is) ho hw
 have h2: ∃es,stepG P true (Conc.G (b.at a (.inRegion ops (i::is)::k)) cs) w= .comm (Conc.G (b.at a (.inRegion ops (i::is)::k)) cs) cases blocking shape w1 es:=by
  unfold Conc.G;rw[h1];simp only[stepG.apply,Sem.runT_eq,hr];exact⟨_,rfl⟩
 obtain⟨es,h2⟩:=h2;have h3:=hs _ _ _ h2;rw[HG b k ho]at h3;exact⟨e,a',w',q, .of_steps (.one h3) r⟩
abbrev O7:= @WX.comm
end
end Leg
namespace Leg
open Go Codec Api
section
variable (P:Program) (w0:World) (F:Hl) (n:Nat)
def TX(ops:Array Oper)(Q:QQ)(is:List Nat)(D:List Deferred)(L:List (Nat×Value))(H:List HP):Prop:=∀a w,Fr n D L a→Same w0 w→Sat H F w→WX P ops Q is a w
end
section
variable {P:Program} {w0:World} {F:Hl} {n:Nat} {ops:Array Oper} {Q:QQ} {is:List Nat} {D:List Deferred} {L:List (Nat×Value)} {H:List HP} {i d:Nat} {o:Oper}
theorem TC.regionX{id:Nat}{l:List Oper}(h:TX P w0 F n l.toArray Q (List.range l.length) D L H):TC P w0 F n (.region id l.toArray false) Q D L H:=
 λa w f s m=>WX.region (by simpa using h a w f s m)
abbrev zJ:= @TC.regionX
theorem TX.nil(h:TE w0 F n Q .normal D L H):TX P w0 F n ops Q [] D L H:=λa w f s m=>WX.nil (h a w f s m)
abbrev Nl:= @TX.nil
theorem TX.v{v:Value}(ho:ops[i]?=some o)(hw:Want n D ops o L)(hd:o.dst=some d)(hn:Nat.blt d n=true)(h1:PV P n D L (Sat H F) o v)(h:TX P w0 F n ops Q is D ((d,v)::L) H):TX P w0 F n ops Q (i::is) D L H:=λa w f s m=>by
 refine WX.value ho (hw a f) (h1 a w f m) ?_;rw[hd];exact h _ _ (f.put (lb hn) _) s m
abbrev uH:= @TX.v
end
end Leg
namespace Leg
open Go Codec Api Go.Conc
section
variable {P:Program} {w0:World} {F:Hl} {n:Nat} {ops:Array Oper} {Q:QQ} {is:List Nat} {D:List Deferred} {L:List (Nat×Value)} {H:List HP} {i d:Nat} {o:Oper}
theorem Sat.chan{w:World}{c cap s r:Nat}{vs:List Value}(m:Sat H F w)(k:Nat)(hk:Nat.blt k H.length=true)(e:H.getD k (λ_=>True)=ek c cap vs s r):w.heap[c]?=some (.chan cap vs.toArray false s r false):=by
 obtain⟨h,d,e',x⟩:=m;obtain⟨h1,h2,d',rfl,a,_⟩:=eU k (lb hk) x;rw[e]at a
 have:hp w c=some (.chan cap vs.toArray false s r false):=by
  rw[e',jO];exact iA (by rw[show h1=sg c _ from a];simp[sg])
 exact this
theorem Sat.setChan{w:World}{c cap s r s' r':Nat}{vs vs':List Value}(m:Sat H F w)(k:Nat)(hk:Nat.blt k H.length=true)(e:H.getD k (λ_=>True)=ek c cap vs s r):Sat (H.set k (ek c cap vs' s' r')) F (w.setChan c cap vs'.toArray false s' r' false):=by
 have hc:=m.chan k hk e
 have hlt:c<w.heap.size:=by
  by_cases q:c<w.heap.size
  · exact q
  · rw[Array.getElem?_eq_none (by omega)]at hc;cases hc
 exact m.write k (lb hk) e (heap_setChan w c cap vs'.toArray false s' r' false hlt) (λj hj=>by simp[World.setChan,Array.getElem?_setIfInBounds,Ne.symm hj])
theorem Same.setChan{w w':World}(s:Same w w')(c cap:Nat)(b:Array Value)(cl:Bool)(x y:Nat)(t:Bool):Same w (w'.setChan c cap b cl x y t):=s.trans ⟨rfl,rfl,rfl,by simp[World.setChan]⟩
theorem tS{x:Operand}{so:Option Operand}{e:TypeId}{z:Value}{blocking:Bool}(ho:o.op= .select #[⟨x,so,e⟩] blocking)(hz:(P.info? e).map (·.zero)=some (some z))(ev:Operand→Value)(w:World):
 (execOp ev o).run P w= .ok (.comm #[{chan:=ev x,send:=so.map ev,zero:=z}] blocking .select) w:=by
 simp[execOp,ho,Sem.run_bind,oX hz]
theorem TX.sendRoom{x y:Operand}{e c cap s r:Nat}{z v:Value}{vs:List Value}(k:Nat)(ho:ops[i]?=some o)(hw:Want n D ops o L)(hop:o.op= .select #[⟨x,some y,e⟩] false)(hd:o.dst=some d)(hn:Nat.blt d n=true)(hz:(P.info? e).map (·.zero)=some (some z))
 (hx:cL L x=some (.chan (some c))) (hy:cL L y=some v) (hk:Nat.blt k H.length=true) (hH:H.getD k (λ_=>True)=ek c cap vs s r) (hroom:vs.length<cap)
 (h:TX P w0 F n ops Q is D ((d, .tuple #[.int .i64 0, .bool false])::L) (H.set k (ek c cap (vs++[v]) (s+1) r))):TX P w0 F n ops Q (i::is) D L H:=λa w f sm m=>by
 have hc:=m.chan k hk hH;have hr:=tS (P:=P) hop hz a.eval w;rw[f.eval hx]at hr;simp only[Option.map_some,f.eval hy]at hr;refine O7 (v:= .tuple #[.int .i64 0, .bool false]) (w2:=w.setChan c cap (vs++[v]).toArray false (s+1) r false) ho (hw a f) hr (λfr cs es hs=>?_) ?_
 · have:=step_lone_sel_send_room (k:=0) hs rfl (λj c' hj hjc=>by cases j with|zero=>exact absurd rfl hj|succ j=>simp at hjc) hc (by simpa using hroom)
   rw[this];simp[commResult,goInt]
 · rw[hd]
   exact h _ _ (f.put (lb hn) _) (sm.setChan ..) (m.setChan k hk hH)
theorem TX.sendFull{x y:Operand}{e c cap s r:Nat}{z v:Value}{vs:List Value}(k:Nat)(ho:ops[i]?=some o)(hw:Want n D ops o L)(hop:o.op= .select #[⟨x,some y,e⟩] false)(hd:o.dst=some d)(hn:Nat.blt d n=true)(hz:(P.info? e).map (·.zero)=some (some z))
 (hx:cL L x=some (.chan (some c))) (hy:cL L y=some v) (hk:Nat.blt k H.length=true) (hH:H.getD k (λ_=>True)=ek c cap vs s r) (hfull:cap≤vs.length)
 (h:TX P w0 F n ops Q is D ((d, .tuple #[.int .i64 (-1), .bool false])::L) H):TX P w0 F n ops Q (i::is) D L H:=λa w f sm m=>by
 have hc:=m.chan k hk hH;have hr:=tS (P:=P) hop hz a.eval w;rw[f.eval hx]at hr;simp only[Option.map_some,f.eval hy]at hr;refine O7 (v:= .tuple #[.int .i64 (-1), .bool false]) (w2:=w) ho (hw a f) hr (λfr cs es hs=>?_) ?_
 · have:=step_lone_sel_default hs (λcc hcc=>by
    obtain rfl:cc=scase c v z:=by simpa [scase]using hcc
    exact noWay_send hc (by simpa using hfull))
   rw[this];simp[commResult,goInt]
 · rw[hd]
   exact h _ _ (f.put (lb hn) _) sm m
theorem TX.recvBuf{x:Operand}{e c cap s r:Nat}{z v:Value}{vs:List Value}(k:Nat)(ho:ops[i]?=some o)(hw:Want n D ops o L)(hop:o.op= .select #[⟨x,none,e⟩] false)(hd:o.dst=some d)(hn:Nat.blt d n=true)(hz:(P.info? e).map (·.zero)=some (some z))
 (hx:cL L x=some (.chan (some c))) (hk:Nat.blt k H.length=true) (hH:H.getD k (λ_=>True)=ek c cap (v::vs) s r)
 (h:TX P w0 F n ops Q is D ((d, .tuple #[.int .i64 0, .bool true,v])::L) (H.set k (ek c cap vs s (r+1)))):TX P w0 F n ops Q (i::is) D L H:=λa w f sm m=>by
 have hc:=m.chan k hk hH;have hr:=tS (P:=P) hop hz a.eval w;rw[f.eval hx]at hr;simp only[Option.map_none]at hr;refine O7 (v:= .tuple #[.int .i64 0, .bool true,v]) (w2:=w.setChan c cap vs.toArray false s (r+1) false) ho (hw a f) hr (λfr cs es hs=>?_) ?_
 · have:=step_lone_sel_recv_buf (k:=0) hs rfl (λj c' hj hjc=>by cases j with|zero=>exact absurd rfl hj|succ j=>simp at hjc) hc (by simp)
   rw[this];simp[commResult,goInt]
 · rw[hd]
   exact h _ _ (f.put (lb hn) _) (sm.setChan ..) (m.setChan k hk hH)
theorem TX.recvNone{x:Operand}{e c cap s r:Nat}{z:Value}(k:Nat)(ho:ops[i]?=some o)(hw:Want n D ops o L)(hop:o.op= .select #[⟨x,none,e⟩] false)(hd:o.dst=some d)(hn:Nat.blt d n=true)(hz:(P.info? e).map (·.zero)=some (some z))
 (hx:cL L x=some (.chan (some c))) (hk:Nat.blt k H.length=true) (hH:H.getD k (λ_=>True)=ek c cap [] s r)
 (h:TX P w0 F n ops Q is D ((d, .tuple #[.int .i64 (-1), .bool false,z])::L) H):TX P w0 F n ops Q (i::is) D L H:=λa w f sm m=>by
 have hc:=m.chan k hk hH;have hr:=tS (P:=P) hop hz a.eval w;rw[f.eval hx]at hr;simp only[Option.map_none]at hr;refine O7 (v:= .tuple #[.int .i64 (-1), .bool false,z]) (w2:=w) ho (hw a f) hr (λfr cs es hs=>?_) ?_
 · have:=step_lone_sel_default hs (λcc hcc=>by
    obtain rfl:cc=rcase c z:=by simpa [rcase]using hcc
    exact noWay_recv hc)
   rw[this];simp[commResult,goInt]
 · rw[hd]
   exact h _ _ (f.put (lb hn) _) sm m
end
end Leg
namespace Leg
open Go Codec Api Go.Conc
section
variable {P:Program} {w0:World} {F:Hl} {n:Nat} {ops:Array Oper} {Q:QQ} {D:List Deferred} {L:List (Nat×Value)} {H:List HP} {d:Nat} {o:Oper}
theorem PV.lenChan{t e:TypeId}{dir:ChanDir}{x:Operand}{c cap s r:Nat}{vs:List Value}(k:Nat)(ho:o.op= .call {callee:= .builtin .len,args:=#[x],argTypes:=#[t]})(ht:P.underlying t=some (.chan dir e))(hx:cL L x=some (.chan (some c)))
 (hk:Nat.blt k H.length=true) (hH:H.getD k (λ_=>True)=ek c cap vs s r):PV P n D L (Sat H F) o (.int .i64 ((vs.length:Nat):Int)):=λa w f m=>by
 have hl:=Conc.run_len_chan (P:=P) (w:=w) (dir:=dir) (e:=e) t o.type ht (m.chan k hk hH);simp[execOp,ho,resolve,f.eval hx,invoke,builtin,hl,goInt]
theorem PV.capChan{t e:TypeId}{dir:ChanDir}{x:Operand}{c cap s r:Nat}{vs:List Value}(k:Nat)(ho:o.op= .call {callee:= .builtin .cap,args:=#[x],argTypes:=#[t]})(ht:P.underlying t=some (.chan dir e))(hx:cL L x=some (.chan (some c)))
 (hk:Nat.blt k H.length=true) (hH:H.getD k (λ_=>True)=ek c cap vs s r):PV P n D L (Sat H F) o (.int .i64 ((cap:Nat):Int)):=λa w f m=>by
 have hl:=Conc.run_cap_chan (P:=P) (w:=w) (dir:=dir) (e:=e) t o.type ht (m.chan k hk hH);simp[execOp,ho,resolve,f.eval hx,invoke,builtin,hl,goInt]
end
abbrev iK(T U b:Nat)(ls:List (List UInt8)):HP:=pack (λq:Nat×List Value×Nat×Nat=>[ak b [.chan (some q.1)] T,ek q.1 8 q.2.1 q.2.2.1 q.2.2.2,eJ q.2.1 ls U])
def su(T U:Nat)(bs:List Nat)(W:List (List (List UInt8)))(k:Nat):HP:=if k%6=0 then(λ_=>True)else iK T U (bs.getD k 0) (W.getD k [])
def qd(T U:Nat)(bs:List Nat)(W:List (List (List UInt8))):List HP:=(List.range 25).map (su T U bs W)
def gh(T U:Nat)(bs:List Nat)(W:List (List (List UInt8))):HP:=bH (qd T U bs W)
def gS(T U:Nat)(bs:List Nat)(W:List (List (List UInt8)))(k:Nat):HP:=bH ((qd T U bs W).eraseIdx k)
def fx(bs:List Nat):List Value:=(List.range 25).map λk=>if k%6=0 then .pointer none else .pointer (some ⟨bs.getD k 0,0,none⟩)
theorem KA(bs:List Nat){k:Nat}(h:k<25):(fx bs)[k]?=some (if k%6=0 then .pointer none else .pointer (some ⟨bs.getD k 0,0,none⟩)):=by unfold fx;simp[h]
abbrev eR(NT T U n:Nat)(W:List (List (List UInt8))):HP:=pack (λbs:List Nat=>[ak n (fx bs) NT,gh T U bs W])
section
variable {T U:Nat} {bs:List Nat} {W:List (List (List UInt8))} {k:Nat} {H:List HP} {h:Hl}
theorem E7:(qd T U bs W).length=25:=by simp[qd]
theorem GM(hk:k<25)(s:bH (gh T U bs W::H) h):bH (su T U bs W k::gS T U bs W k::H) h:=by
 have s1:bH (qd T U bs W++H) h:=(ci _ _).2 s;have e:(qd T U bs W).getD k (λ_=>True)=su T U bs W k:=by simp[qd,List.getD_eq_getElem?_getD,hk]
 have p:=nK (λ_=>True) (qd T U bs W) k (by rw[E7];exact hk);rw[e]at p;have s2:=eA (p.append_right H) s1;exact cM s2 (λ_ a=>a) λ_ b=>(ci _ _).1 b
theorem E4{W':List (List (List UInt8))}(hk:k<25)(hW: ∀j,j≠k→W'.getD j []=W.getD j [])(s:bH (su T U bs W' k::gS T U bs W k::H) h):bH (gh T U bs W'::H) h:=by
 have e0:(qd T U bs W').eraseIdx k=(qd T U bs W).eraseIdx k:=by
  refine List.ext_getElem? λj=>?_
  rw[List.getElem?_eraseIdx,List.getElem?_eraseIdx]
  have: ∀i,i≠k→(qd T U bs W')[i]?=(qd T U bs W)[i]?:=λi hi=>by
   simp only[qd,List.getElem?_map];cases q:(List.range 25)[i]?with
   |none=>rfl
   |some m=>
    have hm:m=i:=by
     by_cases hi25:i<25
     · simp[hi25]at q;exact q.symm
     · simp[hi25]at q
    subst hm;simp only[Option.map_some,su,hW m hi]
  split
  · exact this j (by omega)
  · exact this (j+1) (by omega)
 have e:(qd T U bs W').getD k (λ_=>True)=su T U bs W' k:=by simp[qd,List.getD_eq_getElem?_getD,hk]
 have p:=nK (λ_=>True) (qd T U bs W') k (by rw[E7];exact hk);rw[e,e0]at p;have s2:bH ((su T U bs W' k::(qd T U bs W).eraseIdx k)++H) h:=cM s (λ_ a=>a) λ_ b=>(ci _ _).2 b
 exact(ci _ _).1 (eA (p.symm.append_right H) s2)
end
def bB(from' to':Int):Nat:=from'.toNat*5+to'.toNat
def gp(w:Int):Bool:=decide (0≤w∧w<5)
theorem Mg{f t:Int}(hf:gp f=true)(ht:gp t=true):bB f t<25:=by
 have h1:0≤f∧f<5:=of_decide_eq_true hf;have h2:0≤t∧t<5:=of_decide_eq_true ht;unfold bB;omega
theorem uO{f t:Int}(hf:gp f=true)(ht:gp t=true):bB f t%6=0↔f=t:=by
 have h1:0≤f∧f<5:=of_decide_eq_true hf;have h2:0≤t∧t<5:=of_decide_eq_true ht;unfold bB;omega
end Leg
end

section
namespace Wal
open Go Leg Codec Api Dsk
end Wal
namespace Leg
open Go Codec Api
end Leg
namespace Leg
open Go Codec Api
theorem rU{us:List Value}{ls:List (List UInt8)}{e:Nat}{H:List HP}{F:Hl}{w:World}(i:Nat)(hi:Nat.blt i H.length=true)(hH:H.getD i (λ_=>True)=eJ us ls e)(m:Sat H F w):us.length=ls.length∧∀u∈us,u.oneCell'=true:=by
 obtain⟨h,d,e',x⟩:=m;obtain⟨h1,h2,d',rfl,a,_⟩:=eU i (lb hi) x;rw[hH]at a;refine⟨a.1,λu hu=>?_⟩;obtain⟨j,hj,rfl⟩:=fB hu;obtain⟨u,e1,k1,k2,dk,rfl,a3⟩:=yT us ls e _ a.1 a.2 j (by rw[←a.1];exact hj);rw[List.getElem?_eq_getElem hj]at e1;injection e1 with e1
 rw[e1];exact(Dc a3 (λb o q=>q):IsB u _ k1).one
section
variable {P:Program} {n:Nat} {D:List Deferred} {L:List (Nat×Value)} {S:World→Prop} {o:Oper}
end
end Leg
namespace Wal
open Go Leg Codec Api Dsk
end Wal
namespace Leg
open Go Codec Api
section
variable {P:Program} {n:Nat} {D:List Deferred} {L:List (Nat×Value)} {S:World→Prop} {o:Oper}
end
theorem Jy{us:List Value}{ls:List (List UInt8)}{e:Nat}{u:Value}{l:List UInt8}{H:List HP}{h:Hl}(s:bH (eJ (u::us) (l::ls) e::H) h):bH (hX u l e::eJ us ls e::H) h:=by
 obtain⟨h1,h2,d,rfl,⟨hl,a⟩,b⟩:=s;obtain⟨g1,g2,d',rfl,a1,a2⟩:=a;exact nG.1 ⟨_,h2,d,rfl,⟨g1,g2,d',rfl,a1,⟨by simpa using hl,a2⟩⟩,b⟩
def BQ(ls:List (List UInt8))(bs:List UInt8):List (List UInt8):=if ls.length<8 then ls++[bs]else ls
def dM(f t:Int):Bool:=gp f&&gp t&& !decide (f=t)
def pG(W:List (List (List UInt8)))(f t:Int)(bs:List UInt8):List (List (List UInt8)):=if dM f t then W.set (bB f t) (BQ (W.getD (bB f t) []) bs)else W
theorem iY{f t:Int}(h:dM f t=true):bB f t<25∧¬bB f t%6=0:=by
 unfold dM at h;rw[ay,ay]at h;refine⟨Mg h.1.1 h.1.2,λq=>?_⟩;have:=(uO h.1.1 h.1.2).1 q;rw[this]at h;simp at h
theorem A6{T U:Nat}{bs:List Nat}{W:List (List (List UInt8))}{k:Nat}(h: ¬k%6=0):su T U bs W k=iK T U (bs.getD k 0) (W.getD k []):=by unfold su;rw[if_neg h]
theorem oN{T U:Nat}{bs:List Nat}{W:List (List (List UInt8))}{f t:Int}(hv:dM f t=true){H:List HP}{h:Hl}(s:bH (gh T U bs W::H) h):bH (iK T U (bs.getD (bB f t) 0) (W.getD (bB f t) [])::gS T U bs W (bB f t)::H) h:=by
 obtain⟨h1,h2⟩:=iY hv;have:=GM h1 s
 rwa [A6 h2]at this
theorem uN{T U:Nat}{bs:List Nat}{W:List (List (List UInt8))}{f t:Int}{ls:List (List UInt8)}(hv:dM f t=true)(hW:W.length=25){H:List HP}{h:Hl}(s:bH (iK T U (bs.getD (bB f t) 0) ls::gS T U bs W (bB f t)::H) h):bH (gh T U bs (W.set (bB f t) ls)::H) h:=by
 obtain⟨h1,h2⟩:=iY hv;refine E4 (W:=W) h1 (λj hj=>?_) ?_
 · rw[List.getD_eq_getElem?_getD,List.getD_eq_getElem?_getD,List.getElem?_set_ne (λe=>hj e.symm)]
 · rw[A6 h2,show(W.set (bB f t) ls).getD (bB f t) []=ls by rw[List.getD_eq_getElem?_getD,List.getElem?_set_self (by omega)];rfl]
   exact s
end Leg
namespace Leg
open Go Codec Api
def b8(w:Int):UInt8:=Wal.r8 w
theorem w3(w:Int):IntKind.u8.wrap w=(((b8 w).toNat:Nat):Int):=Wal.r8_wrap w
open Go.Conc
section
variable {P:Program} {w0:World} {F:Hl} {n:Nat} {ops:Array Oper} {Q:QQ} {is:List Nat} {D:List Deferred} {L:List (Nat×Value)} {H:List HP} {i d:Nat} {o:Oper}
theorem TX.recv1{x:Operand}{t e:TypeId}{dir:ChanDir}{c cap s r:Nat}{z v:Value}{vs vs0:List Value}(k:Nat)(ho:ops[i]?=some o)(hw:Want n D ops o L)(hop:o.op= .recv t x false)(hd:o.dst=some d)(hn:Nat.blt d n=true)(ht:P.underlying t=some (.chan dir e))(hz:(P.info? e).map (·.zero)=some (some z))
 (hx:cL L x=some (.chan (some c))) (hk:Nat.blt k H.length=true) (hH:H.getD k (λ_=>True)=ek c cap vs0 s r) (he:vs0=v::vs)
 (h:TX P w0 F n ops Q is D ((d,v)::L) (H.set k (ek c cap vs s (r+1)))):TX P w0 F n ops Q (i::is) D L H:=λa w f sm m=>by
 subst he;have hc:=m.chan k hk hH
 have hr:(execOp a.eval o).run P w= .ok (.comm #[{chan:= .chan (some c),send:=none,zero:=z}] true (.recv false)) w:=by
  simp[execOp,hop,f.eval hx,Sem.run_bind,run_underlying ht,oX hz]
 refine O7 (v:=v) (w2:=w.setChan c cap vs.toArray false s (r+1) false) ho (hw a f) hr (λfr cs es hs=>?_) ?_
 · have:=step_lone_recv_buf false hs hc (by simp)
   rw[this];simp[got]
 · rw[hd]
   exact h _ _ (f.put (lb hn) _) (sm.setChan ..) (m.setChan k hk hH)
theorem TX.send1{x y:Operand}{c cap s r:Nat}{v:Value}{vs:List Value}(k:Nat)(ho:ops[i]?=some o)(hw:Want n D ops o L)(hop:o.op= .send x y)(hd:o.dst=none)
 (hx:cL L x=some (.chan (some c))) (hy:cL L y=some v) (hk:Nat.blt k H.length=true) (hH:H.getD k (λ_=>True)=ek c cap vs s r) (hroom:vs.length<cap)
 (h:TX P w0 F n ops Q is D L (H.set k (ek c cap (vs++[v]) (s+1) r))):TX P w0 F n ops Q (i::is) D L H:=λa w f sm m=>by
 have hc:=m.chan k hk hH
 have hr:(execOp a.eval o).run P w= .ok (.comm #[{chan:= .chan (some c),send:=some v,zero:= .tuple #[]}] true .send) w:=by
  simp[execOp,hop,f.eval hx,f.eval hy,Sem.run]
 refine O7 (v:=undef) (w2:=w.setChan c cap (vs++[v]).toArray false (s+1) r false) ho (hw a f) hr (λfr cs es hs=>?_) ?_
 · have:=step_lone_send_room hs hc (by simpa using hroom)
   rw[this];simp
 · rw[hd]
   exact h _ _ f (sm.setChan ..) (m.setChan k hk hH)
end
def Ep(k:Nat)(u:Value):Value:=if k=0 then .slice none 0 0 else u
theorem Kq{α:Type}{l:List α}{k:Nat}(h:k<l.length):l.drop k++l.take k=l[k]::(l.drop (k+1)++l.take k):=by rw[dK h];rfl
theorem DL{α:Type}{l:List α}{k:Nat}(h:k<l.length):(l.drop (k+1)++l.take k)++[l[k]]=l.drop (k+1)++l.take (k+1):=by rw[aI,bU h]
end Leg
namespace Leg
open Go
theorem Ln{us:List Value}{k:Nat}(h:k=0)(hk:k<us.length):us[k]=Ep (k+1) (us.getD 0 undef):=by
 subst h;unfold Ep;rw[if_neg (by omega)];simp[List.getD_eq_getElem?_getD,hk]
theorem Ll{u:Value}{k:Nat}(h: ¬k=0):Ep k u=Ep (k+1) u:=by unfold Ep;rw[if_neg h,if_neg (by omega)]
theorem Lm{u:Value}{k:Nat}(h: ¬k=0):Ep k u=u:=if_neg h
end Leg
namespace Leg
open Go
def tF{α:Type}:List α→List α
 | []=>[]
 |a::l=>l++[a]
def JU{α:Type}(l:List α):Bool:=decide (l.length≠0∧l.length≠8)
def FB{α:Type}[Inhabited α](l:List α):List α:=if l.length≠0∧l.length≠8 then l++[l.getD 0 default]else l
end Leg
namespace Leg
open Go
def lT{α:Type}:Nat→List α→List α
 |0,l=>l
 |n+1,l=>tF (lT n l)
theorem HY{α:Type}(l:List α):(tF l).length=l.length:=by cases l<;>simp[tF]
theorem kH{α:Type}: ∀(n:Nat) (l:List α),(lT n l).length=l.length
 |0,_=>rfl
 |n+1,l=>by rw[lT,HY,kH n l]
theorem HX{α:Type}{l:List α}{x:α}:x∈tF l↔x∈l:=by
 cases l with
 |nil=>rfl
 |cons a l=>simp[tF,or_comm]
theorem pq{α:Type}{x:α}: ∀(n:Nat) (l:List α),x∈lT n l↔x∈l
 |0,_=>Iff.rfl
 |n+1,l=>by rw[lT,HX,pq n l]
theorem Ad{α β:Type}(f:α→β)(l:List α):tF (l.map f)=(tF l).map f:=by cases l<;>simp[tF]
theorem Ml{α β:Type}[Inhabited α][Inhabited β](f:α→β)(l:List α):FB (l.map f)=(FB l).map f:=by
 unfold FB;rw[bQ];split
 · rename_i h
   cases l with
   |nil=>exact absurd rfl h.1
   |cons a l=>simp
 · rfl
theorem Mm{α β:Type}(f:α→β)(l:List α):JU (l.map f)=JU l:=by unfold JU;rw[bQ]
end Leg
end

section
namespace Api
open Go Leg Codec Dsk Wal
instance :Inhabited MsgT:=⟨.zero⟩
structure LD where
 cnt:Nat
 used:Int
 D:DS
structure DkOk(D:DS):Prop where
 ok:D.Ok
 inn:Wal.DS.In D
 ws:D.ws.length≤2048
 up:D.dn=false→D.ws=[]
def Wrote(D:DS)(n:Nat)(r:Int×DS):Prop:=r.2.Ok∧Wal.DS.In r.2∧((D.dn=true∧r.2=D)∨(D.dn=false∧r.2.ws.length≤D.ws.length+n∧(r.1=0→r.2.dn=false)∧(r.1≠0→r.2.dn=true)))
theorem Wrote.none{D:DS}(h:D.Ok)(hi:Wal.DS.In D):Wrote D 0 (0,D):=⟨h,hi,by
 cases hd:D.dn
 · exact .inr ⟨rfl,aH _,λ_=>by first|exact hd|rfl,λq=>absurd rfl q⟩
 · exact .inl ⟨rfl,rfl⟩⟩
theorem Wrote.more{D:DS}{n m:Nat}{r:Int×DS}(h:Wrote D n r)(hm:n≤m):Wrote D m r:=⟨h.1,h.2.1,h.2.2.imp id λ⟨a,b,c⟩=>⟨a,by omega,c⟩⟩
theorem Wrote.one{D:DS}(h:D.Ok)(hi:Wal.DS.In D){at':Int}{bs:List UInt8}(h1:0≤at'∧at'<2048)(h2:bs.length≤64):Wrote D 1 (D.write at' bs):=by
 cases hd:D.dn
 · by_cases hc:D.ar=true∧D.lf=0
   · rw[sy h1 h2 hc]
     exact⟨⟨h.s,h.ws,h.lf⟩,hi, .inr ⟨hd,Nat.le_succ _,(λq=>absurd q (by show ¬(4:Int)=0;decide)),λ_=>rfl⟩⟩
   · have h4:D.ar=false∨0<D.lf:=by
      have:=h.lf;cases q:D.ar
      · exact .inl rfl
      · right
        have:D.lf≠0:=λe=>hc ⟨q,e⟩
        omega
     rw[ny h1 h2 hd h4];exact⟨wU h h2 h4,wV hi h1, .inr ⟨hd,by simp[wz],λ_=>rfl,λq=>absurd rfl q⟩⟩
 · have e:D.write at' bs=(4,D):=by
    rw[DS.write,if_neg (by omega),if_pos (.inl hd)];cases D;simp only at hd;rw[hd]
   rw[e];exact⟨h,hi, .inl ⟨hd,rfl⟩⟩
theorem Wrote.then{D:DS}{n m:Nat}{r q:Int×DS}(h:Wrote D n r)(h0:r.1=0)(g:Wrote r.2 m q):Wrote D (n+m) q:=by
 obtain⟨_,_,h⟩:=h;refine⟨g.1,g.2.1,?_⟩;rcases h with⟨hd,e⟩| ⟨hd,hl,hz,_⟩
 · rw[e]at g
   rcases g.2.2 with⟨_,e2⟩| ⟨hd2,_⟩
   · exact .inl ⟨hd,e2⟩
   · rw[hd]at hd2;cases hd2
 · rcases g.2.2 with⟨hd2,_⟩| ⟨_,hl2,h3⟩
   · rw[hz h0]at hd2;cases hd2
   · exact .inr ⟨hd,by omega,h3⟩
theorem Wrote.writes: ∀(ss:List il) (at':Int) (D:DS),D.Ok→Wal.DS.In D→0≤at'→at'+ss.length≤2048→(∀s∈ss,s.length=64)→Wrote D ss.length (fp ss at' D)
 | [],_,D,h,hi,_,_,_=>Wrote.none h hi
 |s::ss,at',D,h,hi,h0,h1,hs=>by
  simp only[ah]at h1;have h2:=hs s (by simp);have o:=Wrote.one h hi (at':=at') (bs:=s) (by omega) (by omega);rw[fp];split
  · rename_i hz
    have:=o.then hz (Wrote.writes ss (at'+1) _ o.1 o.2.1 (by omega) (by omega) λx hx=>hs x (by simp[hx]))
    rwa [mN]at this
  · exact o.more (by simp)
abbrev Sp:= @Wrote.writes
theorem Wrote.wipes: ∀(n:Nat) (at':Int) (D:DS),D.Ok→Wal.DS.In D→0≤at'→at'+n≤2048→Wrote D n (gF n at' D)
 |0,_,D,h,hi,_,_=>Wrote.none h hi
 |n+1,at',D,h,hi,h0,h1=>by
  rw[gF];split
  · exact(Wrote.wipes n (at'+1) D h hi (by omega) (by omega)).more (by omega)
  · have o:=Wrote.one h hi (at':=at') (bs:=[]) (by omega) (by simp)
    split
    · rename_i hz
      have:=o.then hz (Wrote.wipes n (at'+1) _ o.1 o.2.1 (by omega) (by omega))
      rwa [mN]at this
    · exact o.more (by omega)
theorem DkOk.wrote{D:DS}(h:DkOk D){n:Nat}{r:Int×DS}(g:Wrote D n r)(hn:n≤2048):(r.1≠0→DkOk r.2)∧DkOk r.2.sync.2:=by
 obtain⟨ho,hi,hr⟩:=g;rcases hr with⟨hd,e⟩| ⟨hd,hl,h0,h1⟩
 · rw[e]
   refine⟨λ_=>h,?_⟩;rw[DS.sync,if_pos hd];exact h
 · rw[h.up hd]at hl
   simp only[ao,bi]at hl;refine⟨λq=>⟨ho,hi,by omega,λz=>by rw[h1 q]at z;cases z⟩,?_⟩
   by_cases q:r.1=0
   · obtain⟨_,s2,_⟩:=nu (h0 q)
     exact⟨QU ho,wS hi,by rw[s2];exact aO _,λ_=>s2⟩
   · rw[DS.sync,if_pos (h1 q)]
     exact⟨ho,hi,by show r.2.ws.length≤2048;omega,λz=>by rw[show r.2.dn=true from h1 q]at z;cases z⟩
theorem xI{D:DS}(hI:Wal.DS.In D)(hD:D.Ok): ∀(f:Nat) (cnt used:Int),0≤used→used≤2048→0≤(fX D.read f cnt used).2∧(fX D.read f cnt used).2≤2048∧(fX D.read f cnt used).1.length≤f
 |0,_,_,h0,h1=>⟨h0,h1,aH _⟩
 |f+1,cnt,used,h0,h1=>by
  rw[fX];split
  · exact⟨h0,h1,aO _⟩
  · rename_i b all h
    have h2:=py hI hD h0 h;have h3:=(kj (mG hD _) h).1;obtain⟨a,b',c⟩:=xI hI hD f (cnt+1) (used+all) (by omega) h2;exact⟨a,b',by simp only[ah];omega⟩
theorem DkOk.open{D:DS}(h:DkOk D):DkOk (bI D).D∧0≤(bI D).used∧(bI D).used≤2048∧(bI D).recs.length≤2049:=by
 obtain⟨a,b,c⟩:=xI h.inn h.ok iG 0 0 (by omega) (by omega);rw[q9]at c;have w:=h.wrote (Wrote.wipes (2048- (fX D.read iG 0 0).2).toNat _ D h.ok h.inn a (by omega)) (by omega);unfold bI;simp only;split
 · rename_i q;exact⟨w.1 q,by show(0:Int)≤0;omega,by show(0:Int)≤2048;omega,aO _⟩
 · split
   · exact⟨w.2,by show(0:Int)≤0;omega,by show(0:Int)≤2048;omega,aO _⟩
   · exact⟨w.2,a,b,by rw[←q9]at c;exact c⟩
theorem DkOk.arm{D:DS}(h:DkOk D)(n:Int)(hn:n≤9223372036854775807):DkOk (D.arm n):=⟨⟨h.ok.s,h.ok.ws,by show 0≤max n 0∧max n 0≤9223372036854775807;omega⟩,h.inn,h.ws,h.up⟩
theorem DkOk.crash{D:DS}(h:DkOk D)(mask torn cut:Int):DkOk (D.crash mask torn cut):=by
 have c:=QY h.ok h.inn mask torn cut;exact⟨c.ok,c.inn,aO _,λ_=>rfl⟩
theorem DkOk.new:DkOk .new:=⟨⟨nr,nr,by simp[DS.new],by simp[DS.new]⟩,⟨Sx,Sx⟩,aO _,λ_=>rfl⟩
structure LD.Ok(e:LD):Prop where
 dk:DkOk e.D
 used:0≤e.used∧e.used≤2048
 cnt:(e.cnt:Int)≤4100+e.used
def LD.put(e:LD)(bs:List UInt8):LD×Int:=(⟨(lu e.D e.cnt e.used bs).cnt,(lu e.D e.cnt e.used bs).used,(lu e.D e.cnt e.used bs).D⟩,(lu e.D e.cnt e.used bs).err)
theorem LD.put_ok(e:LD)(bs:List UInt8)(h:e.Ok)(hb:bs.length≤3000):(e.put bs).1.Ok:=by
 obtain⟨⟨ho,hi,hw,hu⟩,h1,h2⟩:=h;unfold LD.put lu;rw[if_neg (by omega)]
 by_cases hf:(bc bs.length:Int)>2048-e.used
 · rw[if_pos hf];exact⟨⟨ho,hi,hw,hu⟩,h1,h2⟩
 rw[if_neg hf];have hp:0<bc bs.length:=ml _;have hl:(bl ((e.cnt+1:Nat):Int) bs).length=bc bs.length:=cE _ _;have w:=DkOk.wrote ⟨ho,hi,hw,hu⟩ (Sp (bl ((e.cnt+1:Nat):Int) bs) e.used e.D ho hi h1.1 (by omega) (m6 _ _)) (by omega);simp only;split
 · rename_i q;exact⟨w.1 q,h1,h2⟩
 · split
   · exact⟨w.2,h1,h2⟩
   · exact⟨w.2,(by show 0≤e.used+(bc bs.length:Int)∧e.used+(bc bs.length:Int)≤2048;omega),by show((e.cnt+1:Nat):Int)≤4100+(e.used+bc bs.length);omega⟩
def KD:Dk LD:=⟨LD.put,λe=>e.D.dn,LD.Ok,LD.put_ok⟩
structure Slot where
 run:Option (MS LD)
 D:DS
 past:List ReplyT
structure CL where
 ms:List Slot
 W:List (List MsgT)
def Slot.nil:Slot:=⟨none, .new,[]⟩
def CL.at'(a:CL)(i:Nat):Slot:=a.ms.getD i .nil
def Slot.dk(x:Slot):DS:=match x.run with
 |some s=>s.e.D
 |none=>x.D
def Slot.reps(x:Slot):List ReplyT:=x.past++(match x.run with
 |some s=>s.replies
 |none=>[])
def Slot.up(x:Slot):Bool:=match x.run with
 |some s=> !s.e.D.dn
 |none=>false
def CL.set(a:CL)(i:Nat)(x:Slot):CL:= {a with ms:=a.ms.set i x}
def tX(W:List (List MsgT))(f:Nat)(s:SaidT):List (List MsgT):=if dM ((f:Nat):Int) s.to' then W.set (bB ((f:Nat):Int) s.to') (if(W.getD (bB ((f:Nat):Int) s.to') []).length<8 then W.getD (bB ((f:Nat):Int) s.to') []++[s.msg]else W.getD (bB ((f:Nat):Int) s.to') [])else W
def gJ(W:List (List MsgT))(f:Nat)(l:List SaidT):List (List MsgT):=l.foldl (λW s=>tX W f s) W
def MS.hush{δ:Type}(s:MS δ):MS δ:= {s with o:=[]}
def CL.did(a:CL)(i:Nat)(s:MS LD):CL:=⟨a.ms.set i {a.at' i with run:=some s.hush},gJ a.W i s.o⟩
def MS.dsk(s:MS LD)(D:DS):MS LD:= {s with e:= {s.e with D:=D}}
def qe(x:Slot)(n:Int):Slot:=match x.run with
 |some s=> {x with run:=some (s.dsk (s.e.D.arm n))}
 |none=> {x with D:=x.D.arm n}
def oI(x:Slot)(mask torn cut:Int):Slot:=⟨none,x.dk.crash mask torn cut,x.reps⟩
def cf(i:Nat)(D:DS):Option (MS LD)×Int:=
 if(bI D).err≠0 then(none,(bI D).err)
 else match gN (bI D).recs (yi ((i:Nat):Int) (⟨(bI D).recs.length,(bI D).used,(bI D).D⟩:LD))with
  |none=>(none,1)
  |some s=>(some s,0)
def fq(i:Nat)(x:Slot):Slot×Int:=match x.run with
 |some _=>(x,5)
 |none=>({x with run:=(cf i x.D).1,D:=(bI x.D).D},(cf i x.D).2)
def p3(a:CL)(f t:Nat)(m:MsgT):CL×Int:=match(a.at' t).run with
 |none=>(a,0)
 |some s=>if s.e.D.dn then(a,0)else if(js (dy m)).2=0 then(a.did t (fS KD s ((f:Nat):Int) (js (dy m)).1),0)else(a,(js (dy m)).2)
def CL.way(a:CL)(k:Nat)(l:List MsgT):CL:= {a with W:=a.W.set k l}
def n9(a:CL)(o:OpT):CL×Int:=
 if dM o.at' o.to'=false then(a,5)
 else match a.W.getD (bB o.at' o.to') []with
  | []=>(a,10)
  |m::l=>
   if o.kind=7 then(if JU (m::l)then(a.way (bB o.at' o.to') (FB (m::l)),0)else(a,3))
   else match lT (max o.n 0% ((m::l).length:Int)).toNat (m::l)with
    | []=>(a,0)
    |m::l=>if o.kind=6 then(a.way (bB o.at' o.to') l,0)else p3 (a.way (bB o.at' o.to') l) o.at'.toNat o.to'.toNat m
def yQ(a:CL)(i:Nat)(o:OpT):CL×Int:=match(a.at' i).run with
 |none=>(a,4)
 |some s=>if s.e.D.dn then(a,4)else(a.did i (bL KD s o).1,(bL KD s o).2)
def xj(a:CL)(i:Nat):CL×Int:=match(a.at' i).run with
 |none=>(a,4)
 |some s=>if s.e.D.dn then(a,4)else(a.did i (gG KD s),0)
def zy(a:CL)(o:OpT):CL×Int:=
 if gp o.at'=false then(a,5)
 else if 0≤o.kind∧o.kind≤4 then yQ a o.at'.toNat o
 else if o.kind=5∨o.kind=6∨o.kind=7 then n9 a o
 else if o.kind=8 then xj a o.at'.toNat
 else if o.kind=9 then(a.set o.at'.toNat (qe (a.at' o.at'.toNat) o.n),0)
 else if o.kind=10 then(a.set o.at'.toNat (oI (a.at' o.at'.toNat) o.mask o.torn o.cut),0)
 else if o.kind=11 then(a.set o.at'.toNat (fq o.at'.toNat (a.at' o.at'.toNat)).1,(fq o.at'.toNat (a.at' o.at'.toNat)).2)
 else(a,5)
def qR(a:CL)(l:List OpT):CL:=l.foldl (λa o=>(zy a o).1) a
def iQ(i:Nat):Slot:=(fq i .nil).1
def CL.new:CL:=⟨(List.range 5).map iQ,List.replicate 25 []⟩
structure Fresh{δ:Type}(i:Int)(e:δ)(s:MS δ):Prop where
 id:s.id=i
 vote:s.vote=none
 replies:s.replies=[]
 e:s.e=e
 o:s.o=[]
 waits:s.waits=0
 ops:s.ops=0
theorem Fresh.rest{δ:Type}{i:Int}{e:δ}{s:MS δ}(h:Fresh i e s)(m:RecT):Fresh i e (im s m):=by
 obtain⟨h1,h2,h3,h4,h5,h6,h7⟩:=h;unfold im
 repeat' split
 all_goals exact⟨h1,by first|exact h2|rfl,h3,h4,h5,h6,h7⟩
theorem Fresh.new{δ:Type}(i:Int)(e:δ):Fresh i e (yi i e):=⟨rfl,rfl,rfl,rfl,rfl,rfl,rfl⟩
abbrev qm:= @Fresh.new
theorem Fresh.read{δ:Type}{i:Int}{e:δ}: ∀(l:List (List UInt8)) {s s':MS δ},Fresh i e s→gN l s=some s'→Fresh i e s'
 | [],s,s',h,q=>by
  obtain rfl:=bK q;exact h
 |b::l,s,s',h,q=>by
  rw[gN]at q;split at q
  · cases q
  · exact Fresh.read l (h.rest _) q
abbrev mE:= @Fresh.read
theorem gB{i:Nat}{D:DS}{s:MS LD}(h:(cf i D).1=some s):(bI D).err=0∧gN (bI D).recs (yi ((i:Nat):Int) (⟨(bI D).recs.length,(bI D).used,(bI D).D⟩:LD))=some s:=by
 unfold cf at h;split at h
 · cases h
 · rename_i h0
   refine⟨Decidable.not_not.1 h0,?_⟩;split at h
   · cases h
   · rename_i h2;rw[h2];exact h
theorem Bn{v:ViewT}{bs r:List UInt8}(h:nB bs=some (v,r)):OkVw v:=by
 obtain⟨⟨h1,h2,_⟩,_⟩:=oQ h;have hr:=tA h;exact⟨hr,Fz ⟨by omega,by omega⟩ ⟨by omega,by omega⟩ hr⟩
theorem rV{b:BallotT}{bs r:List UInt8}(h:kF bs=some (b,r)):WF b.flat:=by
 obtain⟨⟨h1,h2⟩,_⟩:=jT h;exact OkB.wf ⟨h1,h2⟩
theorem GI{c:ChangeT}{bs r:List UInt8}(h:l8 bs=some (c,r)):WF c.flat:=by
 obtain⟨⟨h1,h2,h3⟩,_⟩:=oo h;exact OkC.wf ⟨h1,h2,h3⟩
theorem FS{x:RowT}{bs r:List UInt8}(h:wx bs=some (x,r)):OkRow x:=OkRow.of (BG h)
theorem OF{m:MsgT}{g:Bool}{bs r:List UInt8}(h:cY bs=some ((m,g),r)):OkMg m:=by
 obtain⟨k,r1,_,h⟩:=bp h
 have fin: ∀{m':MsgT} {g':Bool} {b r:List UInt8},pr (m',g') b=some ((m,g),r)→OkMg m'→OkMg m:=λh q=>by
  obtain⟨e,_⟩:=fZ h;injection e with e1 e2
  exact e1▸q
 split at h
 · obtain⟨_,_,_,h⟩:=bp h;obtain⟨x,_,hx,h⟩:=bp h;exact fin h ⟨FS hx, .zero,iq,iq,qb⟩
 split at h
 · obtain⟨_,_,_,h⟩:=bp h;exact fin h ⟨.zero, .zero,iq,iq,qb⟩
 split at h
 · obtain⟨_,_,_,h⟩:=bp h;obtain⟨b,_,hb,h⟩:=bp h;exact fin h ⟨.zero, .zero,rV hb,iq,qb⟩
 split at h
 · obtain⟨_,_,_,h⟩:=bp h;obtain⟨b,_,hb,h⟩:=bp h;obtain⟨d,_,hd,h⟩:=bp h;obtain⟨c,_,hc,h⟩:=bp h;exact fin h ⟨.zero, .zero,rV hb,rV hd,GI hc⟩
 split at h
 · obtain⟨_,_,_,h⟩:=bp h;obtain⟨b,_,hb,h⟩:=bp h;obtain⟨c,_,hc,h⟩:=bp h;exact fin h ⟨.zero, .zero,rV hb,iq,GI hc⟩
 split at h
 · obtain⟨v,_,hv,h⟩:=bp h;exact fin h ⟨.zero,Bn hv,iq,iq,qb⟩
 split at h
 · obtain⟨_,_,_,h⟩:=bp h;obtain⟨v,_,hv,h⟩:=bp h;exact fin h ⟨.zero,Bn hv,iq,iq,qb⟩
 · exact fin h ⟨.zero, .zero,iq,iq,qb⟩
class OkRd(m:RecT):Prop where
 row:OkRow m.row
 view:OkVw m.view
 ballot:WF m.ballot.flat
 change:WF m.change.flat
theorem Of{m:RecT}{g:Bool}{bs r:List UInt8}(h:dE bs=some ((m,g),r)):OkRd m:=by
 obtain⟨k,r1,_,h⟩:=bp h
 have fin: ∀{m':RecT} {g':Bool} {b r:List UInt8},pr (m',g') b=some ((m,g),r)→OkRd m'→OkRd m:=λh q=>by
  obtain⟨e,_⟩:=fZ h;injection e with e1 e2
  exact e1▸q
 split at h
 · obtain⟨x,_,hx,h⟩:=bp h;exact fin h ⟨FS hx, .zero,iq,qb⟩
 split at h
 · obtain⟨_,_,_,h⟩:=bp h;obtain⟨x,_,hx,h⟩:=bp h;exact fin h ⟨FS hx, .zero,iq,qb⟩
 split at h
 · obtain⟨_,_,_,h⟩:=bp h;exact fin h ⟨.zero, .zero,iq,qb⟩
 split at h
 · obtain⟨_,_,_,h⟩:=bp h;obtain⟨b,_,hb,h⟩:=bp h;exact fin h ⟨.zero, .zero,rV hb,qb⟩
 split at h
 · obtain⟨_,_,_,h⟩:=bp h;obtain⟨b,_,hb,h⟩:=bp h;obtain⟨c,_,hc,h⟩:=bp h;exact fin h ⟨.zero, .zero,rV hb,GI hc⟩
 split at h
 · obtain⟨v,_,hv,h⟩:=bp h;exact fin h ⟨.zero,Bn hv,iq,qb⟩
 · exact fin h ⟨.zero, .zero,iq,qb⟩
theorem Cj(bs:List UInt8):OkMg (js bs).1:=by
 unfold js;split
 · rename_i m h;exact OF h
 · exact⟨.zero, .zero,iq,iq,qb⟩
theorem M5(bs:List UInt8):OkRd (fO bs).1:=by
 unfold fO;split
 · rename_i m h;exact Of h
 · exact⟨.zero, .zero,iq,qb⟩
section
variable {δ:Type} {K:Dk δ} {s:MS δ}
theorem Mw(h:OkR K s)(m:RecT)(hm:OkRd m):OkR K (im s m):=by
 have ha:OkAc s.acc:=⟨h.acc⟩;unfold im;split
 · exact⟨h.e,h.id,h.view,hm.row,h.mir,h.book,h.last,h.acc,h.vote⟩
 split
 · have:=hm.row;exact inferInstance
 split
 · exact inferInstance
 split
 · exact⟨h.e,h.id,h.view,h.own,h.mir,h.book,h.last,mJ (mJ (mJ ha.epoch hm.ballot) ha.had) ha.change,h.vote⟩
 split
 · exact⟨h.e,h.id,h.view,h.own,h.mir,h.book,h.last,mJ (mJ (mJ ha.epoch hm.ballot) hm.ballot) hm.change,h.vote⟩
 split
 · have:=hm.view;exact inferInstance
 · exact h
theorem Bo{v:Vector RowT 5}(h:v= #v[.zero, .zero, .zero, .zero, .zero])(i:Nat)(hi:i<5):OkRow v[i]:=by
 subst h
 match i,hi with
 |0,_|1,_|2,_|3,_|4,_=>exact OkRow.zero
theorem MO{i:Int}{e:δ}(he:K.ok e)(hi:cO i=true):OkR K (yi i e):=
 ⟨he,hi, .first, .zero,Bo rfl,Bo rfl,Bo rfl,QF _ (by decide),λ_ q=>nomatch q⟩
theorem DO: ∀(l:List (List UInt8)) {s s':MS δ},OkR K s→gN l s=some s'→OkR K s'
 | [],s,s',h,q=>by
  obtain rfl:=bK q;exact h
 |b::l,s,s',h,q=>by
  rw[gN]at q;split at q
  · cases q
  · exact DO l (Mw h _ (M5 b)) q
theorem uW{i:Nat}(hi:i<5){D:DS}(hD:DkOk D){s:MS LD}(h:(cf i D).1=some s):OkR KD s∧Fresh ((i:Nat):Int) (⟨(bI D).recs.length,(bI D).used,(bI D).D⟩:LD) s:=by
 obtain⟨_,h2⟩:=gB h;obtain⟨o1,o2,o3,o4⟩:=hD.open;exact⟨DO _ (MO (K:=KD) ⟨o1,⟨o2,o3⟩,by show(((bI D).recs.length:Nat):Int)≤4100+(bI D).used;omega⟩ (decide_eq_true ⟨by omega,by omega⟩)) h2,mE _ (qm _ _) h2⟩
end
class GdM(m:MsgT):Prop where
 kind:0≤m.kind∧m.kind≤9
class GdL(l:List SaidT):Prop where
 all: ∀x∈l,0≤x.msg.kind∧x.msg.kind≤9
theorem Lq(n:Int):0< (oc n).length:=rf _
theorem Ev(n:Int)(l:List Int):0< (bn (n::l)).length:=by
 show 0< (oc n++bn l).length;rw[ac];have:=Lq n;omega
theorem OL{m:MsgT}(h:0≤m.kind∧m.kind≤9):0< (dy m).length:=by
 have p: ∀(l:List Int) (r:List UInt8),0< (bn (m.kind::l)++r).length:=λl r=>by rw[ac];have:=Ev m.kind l;omega
 unfold dy;split
 · exact p _ _
 rename_i h0;split
 · exact Ev _ _
 split
 · exact p _ _
 rename_i h3;split
 · rw[aI,aI];exact p _ _
 split
 · rw[aI];exact p _ _
 split
 · exact p _ _
 split
 · exact p _ _
 · exfalso
   simp only[eF,fa,decide_eq_true_eq]at h0 h3;omega
instance (v:Int):GdM (uo v):=⟨(by decide:(0:Int)≤1∧(1:Int)≤9)⟩
instance (i:Int)(y:RowT):GdM (ug i y):=⟨(by decide:(0:Int)≤2∧(2:Int)≤9)⟩
instance (v:ViewT):GdM (kD v):=⟨(by decide:(0:Int)≤7∧(7:Int)≤9)⟩
instance (i:Int)(v:ViewT):GdM (pA i v):=⟨(by decide:(0:Int)≤8∧(8:Int)≤9)⟩
instance (i:Int)(y:RowT):GdM (iC i y):=⟨(by decide:(0:Int)≤9∧(9:Int)≤9)⟩
instance (e:Int)(b:BallotT):GdM (fP e b):=⟨(by decide:(0:Int)≤3∧(3:Int)≤9)⟩
instance (e:Int)(b h:BallotT)(c:ChangeT):GdM (lv e b h c):=⟨(by decide:(0:Int)≤4∧(4:Int)≤9)⟩
instance (e:Int)(b:BallotT)(c:ChangeT):GdM (jI e b c):=⟨(by decide:(0:Int)≤5∧(5:Int)≤9)⟩
instance (e:Int)(b:BallotT):GdM (ki e b):=⟨(by decide:(0:Int)≤6∧(6:Int)≤9)⟩
instance (t:Int)(m:MsgT)[h:GdM m]:GdL [⟨t,m⟩]:=⟨λx hx=>by rw[cm]at hx;subst hx;exact h.kind⟩
instance (i:Int)(m:MsgT)(p:Nat→Bool)(k:Nat)[h:GdM m]:GdL (oY i m p k):=⟨λx hx=>by
 unfold oY at hx;obtain⟨j,_,rfl⟩:=eH.1 hx
 exact h.kind⟩
instance (x:RepT):GdL (qD x):=⟨λs hs=>by
 unfold qD at hs;rw[eH]at hs;obtain⟨w,_,rfl⟩:=hs
 exact(show(0:Int)≤0∧(0:Int)≤9 by decide)⟩
section
variable {δ:Type} {K:Dk δ} {s0 s:MS δ}
class Qt(s0 s:MS δ):Prop where
 id:s.id=s0.id
 replies:s.replies=s0.replies
 ops:s.ops=s0.ops
 waits:s.waits=s0.waits∨s.waits=0
 o: ∃l,s.o=s0.o++l∧∀x∈l,0≤x.msg.kind∧x.msg.kind≤9
instance Qt.rfl':Qt s s:=⟨rfl,rfl,rfl, .inl rfl,[],(aL _).symm,λ_ h=>by cases h⟩
theorem Qt.trans{a b c:MS δ}(h:Qt a b)(g:Qt b c):Qt a c:=by
 obtain⟨l,e,hl⟩:=h.o;obtain⟨l2,e2,hl2⟩:=g.o;exact⟨g.id.trans h.id,g.replies.trans h.replies,g.ops.trans h.ops,g.waits.elim (λq=>h.waits.imp (q.trans ·) (q.trans ·)) .inr,l++l2,by rw[e2,e,aI],λx hx=>(bP.1 hx).elim (hl x) (hl2 x)⟩
theorem Qt.same{t:MS δ}(h:Qt s0 s)(h1:t.id=s.id)(h2:t.replies=s.replies)(h3:t.ops=s.ops)(h4:t.waits=s.waits)(h5:t.o=s.o):Qt s0 t:=
 ⟨h1.trans h.id,h2.trans h.replies,h3.trans h.ops,by rw[h4];exact h.waits,by rw[h5];exact h.o⟩
instance [h:Qt s0 s](l:List SaidT)[g:GdL l]:Qt s0 (ja K s l):=by
 refine h.trans ⟨rfl,rfl,rfl, .inl rfl,?_⟩
 by_cases q:K.dn s.e=true
 · exact⟨[],by rw[ja,if_pos q,aL],λ_ h=>by cases h⟩
 · exact⟨l,by rw[ja,if_neg q],g.all⟩
instance [h:Qt s0 s](t:Int)(m:MsgT)[GdM m]:Qt s0 (BE K s t m):=inferInstanceAs (Qt s0 (ja K s _))
instance [h:Qt s0 s](r:RecT):Qt s0 (dN K s r):=h.same rfl rfl rfl rfl rfl
instance [h:Qt s0 s](f:Int):Qt s0 (iM s f):=h.same rfl rfl rfl rfl rfl
instance [h:Qt s0 s](w:Int)(x:RowT):Qt s0 (A7 s w x):=h.same rfl rfl rfl rfl rfl
instance [h:Qt s0 s]:Qt s0 (gR s):=h.same rfl rfl rfl rfl rfl
instance [h:Qt s0 s](w:Int)(x:RowT):Qt s0 (iz s w x):=h.same rfl rfl rfl rfl rfl
instance [h:Qt s0 s](w:Int):Qt s0 (lD s w):=h.same rfl rfl rfl rfl rfl
instance [h:Qt s0 s](x:RowT):Qt s0 (q8 s x 0):=⟨h.id,h.replies,h.ops, .inr rfl,h.o⟩
instance [Qt s0 s]:Qt s0 (eY K s):=inferInstanceAs (Qt s0 (ja K s _))
instance [Qt s0 s](y:RowT):Qt s0 (kO K s y):=inferInstanceAs (Qt s0 (ja K s _))
instance [Qt s0 s](v:ViewT):Qt s0 (lU K s v):=inferInstanceAs (Qt s0 (ja K s _))
instance [Qt s0 s](m:MsgT)[GdM m]:Qt s0 (jq K s m):=inferInstanceAs (Qt s0 (ja K s _))
instance [Qt s0 s](x:RowT):Qt s0 (dX K s x 0).1:=by unfold dX;split<;>exact inferInstance
instance [h:Qt s0 s]:Qt s0 (lC K s):=by
 unfold lC;split
 · exact h
 split
 · exact inferInstance
 · exact h
instance [h:Qt s0 s](f:Int)(m:MsgT):Qt s0 (gH K s f m):=by
 unfold gH
 repeat' split
 all_goals exact inferInstance
instance [h:Qt s0 s](w:Int)(x:RowT):Qt s0 (mr s w x):=h.same rfl rfl rfl rfl rfl
instance [h:Qt s0 s](f w:Int)(y:RowT):Qt s0 (tG s f w y):=h.same rfl rfl rfl rfl rfl
instance [h:Qt s0 s](f:Int)(m:MsgT):Qt s0 (eT K s f m):=by unfold eT;split<;>exact inferInstance
theorem qN[Qt s0 s]{f:MS δ→MS δ}(hf:Qt s0 (f s))(t:Int)(m:MsgT)[GdM m]:Qt s0 (lO K f s t m):=by unfold lO;split;exact hf;exact inferInstance
instance [h:Qt s0 s](f w:Int):Qt s0 (eL K s f w):=by
 unfold eL
 repeat' split
 · exact h
 · exact qN inferInstance _ _
 · exact inferInstance
 · exact qN inferInstance _ _
instance [h:Qt s0 s](i w:Int):Qt s0 (gz K s i w):=by
 unfold gz;split
 · exact h
 · exact qN inferInstance _ _
instance [Qt s0 s](i:Int):Qt s0 (lE K s i):=by unfold lE;exact inferInstance
theorem AZ: ∀(l:List Int) (s:MS δ),Qt s0 s→Qt s0 (gg K l s)
 | [],_,h=>h
 |i::l,s,h=>AZ l (lE K s i) inferInstance
instance [h:Qt s0 s]:Qt s0 (pR K s):=AZ _ _ h
instance [h:Qt s0 s](v:ViewT):Qt s0 (lB s v):=h.same rfl rfl rfl rfl rfl
instance [h:Qt s0 s](v:ViewT):Qt s0 (gP K s v):=by
 unfold gP
 repeat' split
 all_goals exact inferInstance
instance [h:Qt s0 s](f:Int)(m:MsgT):Qt s0 (jj K s f m):=by unfold jj;exact inferInstance
instance [h:Qt s0 s](c:ChangeT):Qt s0 (jw K s c):=by
 unfold jw
 repeat' split
 all_goals exact inferInstance
instance [h:Qt s0 s](n:Int):Qt s0 (dB s n):=h.same rfl rfl rfl rfl rfl
instance [h:Qt s0 s](v:VoteT):Qt s0 (la s v):=h.same rfl rfl rfl rfl rfl
instance [h:Qt s0 s](a:AccT):Qt s0 (vC s a):=h.same rfl rfl rfl rfl rfl
instance [h:Qt s0 s](f:Int)(m:MsgT):Qt s0 (kh K f m s):=by
 unfold kh;split
 · exact h
 · split<;>exact inferInstance
theorem tv[h:Qt s0 s]{f:MS δ→MS δ}(hf: ∀s:MS δ,Qt s0 s→Qt s0 (f s))(w:Int)(m:MsgT):Qt s0 (ez K f s w m):=by
 unfold ez
 repeat' split
 · exact inferInstance
 · exact h
 · exact h
 · exact hf _ inferInstance
instance [Qt s0 s](w:Int)(m:MsgT):Qt s0 (pw K s w m):=tv (λ_ _=>inferInstance) w m
instance [h:Qt s0 s](w:Int)(m:MsgT):Qt s0 (kn K w m s):=by unfold kn;exact qN inferInstance _ _
instance [h:Qt s0 s](w:Int)(m:MsgT):Qt s0 (mU K w m s):=by
 unfold mU
 repeat' split
 all_goals exact inferInstance
instance [Qt s0 s](w:Int)(m:MsgT):Qt s0 (qH K s w m):=tv (λ_ _=>inferInstance) w m
theorem vS[h:Qt s0 s]{f:MS δ→MsgT→MS δ}{m:MsgT}[GdM m](hf: ∀s:MS δ,Qt s0 s→Qt s0 (f s m)):Qt s0 (hY K f s m):=by
 unfold hY;split
 · exact hf _ inferInstance
 · exact inferInstance
instance [h:Qt s0 s](vt:VoteT):Qt s0 (jJ K s vt):=vS λ_ _=>inferInstance
instance [h:Qt s0 s](f:Int)(m:MsgT):Qt s0 (oA K f m s):=by
 unfold oA;split
 · exact h
 · split<;>exact inferInstance
instance [Qt s0 s](w:Int)(m:MsgT):Qt s0 (px K s w m):=tv (λ_ _=>inferInstance) w m
instance [h:Qt s0 s](w:Int)(m:MsgT)(a:AccT):Qt s0 (kx K w m a s):=by unfold kx;exact qN inferInstance _ _
instance [h:Qt s0 s](w:Int)(m:MsgT):Qt s0 (nZ K w m s):=by
 unfold nZ
 repeat' split
 all_goals exact inferInstance
instance [Qt s0 s](w:Int)(m:MsgT):Qt s0 (qI K s w m):=tv (λ_ _=>inferInstance) w m
instance [h:Qt s0 s](vt:VoteT):Qt s0 (lw K s vt):=vS λ_ _=>inferInstance
instance [h:Qt s0 s](vt:VoteT):Qt s0 (lP K s vt):=by unfold lP;split<;>exact inferInstance
instance [h:Qt s0 s](c:ChangeT):Qt s0 (nY K s c):=by unfold nY;exact inferInstance
instance [h:Qt s0 s](c:ChangeT):Qt s0 (bW K s c).1:=by
 unfold bW
 repeat' split
 all_goals exact inferInstance
instance [h:Qt s0 s]:Qt s0 (bX K s):=by unfold bX;split<;>exact inferInstance
instance [h:Qt s0 s]:Qt s0 (cj K s):=by unfold cj;split<;>exact inferInstance
instance [h:Qt s0 s]:Qt s0 (fU K s):=by unfold fU;split<;>exact inferInstance
instance [h:Qt s0 s]:Qt s0 (oS K s):=by
 unfold oS;split
 · exact h
 · repeat' split
   all_goals exact inferInstance
instance [h:Qt s0 s]:Qt s0 (gG K s):=by unfold gG;split<;>exact inferInstance
structure Rp(s0 s:MS δ)(l:List ReplyT):Prop where
 id:s.id=s0.id
 replies:s.replies=s0.replies++l
 o: ∃l,s.o=s0.o++l∧∀x∈l,0≤x.msg.kind∧x.msg.kind≤9
theorem Qt.rp(h:Qt s0 s):Rp s0 s []:=⟨h.id,by rw[h.replies,aL],h.o⟩
theorem Rp.then{l:List ReplyT}{t:MS δ}(h:Rp s0 s l)(g:Qt s t):Rp s0 t l:=by
 obtain⟨l1,e,hl⟩:=h.o;obtain⟨l2,e2,hl2⟩:=g.o;exact⟨g.id.trans h.id,g.replies.trans h.replies,l1++l2,by rw[e2,e,aI],λx hx=>(bP.1 hx).elim (hl x) (hl2 x)⟩
theorem Kc(s:MS δ)(f:Int)(m:MsgT):Qt s (dv K s f m)∨(0<s.waits∧Rp s (dv K s f m) [⟨s.waits,0,0⟩]∧(dv K s f m).waits=0∧(dv K s f m).ops=s.ops):=by
 unfold dv;split
 · split
   · by_cases hw:0<s.waits
     · right
       have e:lM (gR (iM s f))= {dp (gR (iM s f)) s.waits 0 0 with waits:=0}:=zZ (s:=gR (iM s f)) hw;have q:Qt (lM (gR (iM s f))) (kw K (iM s f)):=by unfold kw;exact inferInstance
       have hw0:(lM (gR (iM s f))).waits=0:=by rw[e]
       refine⟨hw,Rp.then (s:=lM (gR (iM s f))) ?_ q,(q.waits.elim (·.trans hw0) id),q.ops.trans (by rw[e];rfl)⟩;rw[e];exact⟨rfl,rfl,[],(aL _).symm,λ_ h=>by cases h⟩
     · left
       unfold kw;rw[Aa (s:=gR (iM s f)) hw];exact inferInstance
   · left;exact inferInstance
 · left;exact inferInstance
theorem wR(s:MS δ)(f:Int)(m:MsgT):Qt s (fS K s f m)∨(0<s.waits∧Rp s (fS K s f m) [⟨s.waits,0,0⟩]∧(fS K s f m).waits=0∧(fS K s f m).ops=s.ops):=by
 unfold fS
 by_cases h1:m.kind=1
 · rw[if_neg (by omega),if_pos h1];exact Kc s f m
 · left
   rw[if_neg h1]
   repeat' split
   all_goals exact inferInstance
theorem Ca(s:MS δ)(x:RowT)(op:Int):((dX K s x op).2≠0∧Qt s (dX K s x op).1)∨((dX K s x op).2=0∧Rp s (dX K s x op).1 []∧(dX K s x op).1.waits=op∧(dX K s x op).1.ops=s.ops):=by
 unfold dX;split
 · rename_i h;exact .inl ⟨h,inferInstance⟩
 · right
   have q:Qt (q8 (dN K s (gL x)) x op) (eY K (q8 (dN K s (gL x)) x op)):=inferInstance;refine⟨rfl,Rp.then (s:=q8 (dN K s (gL x)) x op) ⟨rfl,(aL _).symm,[],(aL _).symm,λ_ h=>by cases h⟩ q,?_,q.ops⟩;show(eY K _).waits=_;rfl
theorem AX(s:MS δ)(o:OpT):(∃e v,Rp s (bL K s o).1 [⟨fR (s.ops+1),e,v⟩]∧(bL K s o).2=e∧(bL K s o).1.ops=fR (s.ops+1)∧((bL K s o).1.waits=s.waits∨(bL K s o).1.waits=0))∨(Rp s (bL K s o).1 []∧(bL K s o).2=0∧(bL K s o).1.ops=fR (s.ops+1)∧(bL K s o).1.waits=fR (s.ops+1)):=by
 have e0:Rp s (bo s) []:=⟨rfl,(aL _).symm,[],(aL _).symm,λ_ h=>by cases h⟩
 have rep: ∀(t:MS δ) (op e v:Int),Qt (bo s) t→op=fR (s.ops+1)→Rp s (dp t op e v) [⟨fR (s.ops+1),e,v⟩]∧(dp t op e v).ops=fR (s.ops+1)∧((dp t op e v).waits=s.waits∨(dp t op e v).waits=0):=λt op e v h ho=>by
  subst ho;obtain⟨l,e1,hl⟩:=h.o;exact⟨⟨h.id,by show t.replies++_=_;rw[h.replies];rfl,l,e1,hl⟩,h.ops,h.waits⟩
 unfold bL;split
 · left
   unfold dD;split
   · obtain⟨a,b,c⟩:=rep (bo s) _ (fI (bo s) o.change) 0 inferInstance rfl
     exact⟨_,_,a,rfl,b,c⟩
   · split
     · obtain⟨a,b,c⟩:=rep (bW K (bo s) o.change).1 _ (bW K (bo s) o.change).2 0 inferInstance rfl
       exact⟨_,_,a,rfl,b,c⟩
     · obtain⟨a,b,c⟩:=rep (bW K (bo s) o.change).1 _ 0 0 inferInstance rfl
       have q:Qt (dp (bW K (bo s) o.change).1 (bo s).ops 0 0) (lP K (dp (bW K (bo s) o.change).1 (bo s).ops 0 0) (jv (bo s).view (eI (bo s)) o.change)):=inferInstance;exact⟨_,_,a.then q,rfl,q.ops.trans b,q.waits.elim (λw=>c.imp (w.trans ·) (w.trans ·)) .inr⟩
 · unfold l9
   split
   · left
     obtain⟨a,b,c⟩:=rep (bo s) _ (cS (bo s) o).2.2 (cS (bo s) o).2.1 inferInstance rfl;exact⟨_,_,a,rfl,b,c⟩
   · rcases Ca (K:=K) (bo s) (cS (bo s) o).1 (bo s).ops with⟨h,q⟩| ⟨h,q,hw,ho⟩
     · rw[if_pos h]
       left;obtain⟨a,b,c⟩:=rep _ _ (dX K (bo s) (cS (bo s) o).1 (bo s).ops).2 0 q rfl;exact⟨_,_,a,rfl,b,c⟩
     · rw[if_neg (by omega)]
       right;obtain⟨l,e1,hl⟩:=q.o;exact⟨⟨q.id,q.replies,l,e1,hl⟩,rfl,ho,hw⟩
end
def Slot.pend(x:Slot):Nat:=match x.run with
 |some s=>if 0<s.waits then 1 else 0
 |none=>0
structure SlotOk(i n:Nat)(x:Slot):Prop where
 run: ∀s,x.run=some s→OkR KD s∧s.id=((i:Nat):Int)∧s.o=[]
 D:x.run=none→DkOk x.D
 reps:x.reps.length+x.pend≤n
structure CLOk(n:Nat)(a:CL):Prop where
 ms:a.ms.length=5
 W:a.W.length=25
 at': ∀i,i<5→SlotOk i n (a.at' i)
 way: ∀k,(a.W.getD k []).length≤8∧∀m∈a.W.getD k [],0< (dy m).length
structure OkOp(o:OpT):Prop where
 change:OkCh o.change
 n:o.n≤9223372036854775807
theorem SlotOk.dk{i n:Nat}{x:Slot}(h:SlotOk i n x):DkOk x.dk:=by
 unfold Slot.dk;split
 · rename_i s q;exact(h.run s q).1.e.dk
 · rename_i q;exact h.D q
theorem SlotOk.more{i n k:Nat}{x:Slot}(h:SlotOk i n x)(hk:n≤k):SlotOk i k x:=⟨h.run,h.D,tg h.reps hk⟩
theorem CLOk.more{n k:Nat}{a:CL}(h:CLOk n a)(hk:n≤k):CLOk k a:=⟨h.ms,h.W,λi hi=>(h.at' i hi).more hk,h.way⟩
theorem rl{ms:List Slot}{W:List (List MsgT)}{i:Nat}{x:Slot}(h:i<ms.length):(CL.mk (ms.set i x) W).at' i=x:=by
 unfold CL.at';rw[List.getD_eq_getElem?_getD,List.getElem?_set_self h];rfl
theorem sv{ms:List Slot}{W:List (List MsgT)}{i j:Nat}{x:Slot}(h:j≠i):(CL.mk (ms.set i x) W).at' j=ms.getD j .nil:=by
 unfold CL.at';rw[List.getD_eq_getElem?_getD,List.getElem?_set_ne (λe=>h e.symm),←List.getD_eq_getElem?_getD]
theorem CLOk.put{n k i:Nat}{a:CL}(h:CLOk n a)(hk:n≤k)(hi:i<5){x:Slot}(hx:SlotOk i k x){W:List (List MsgT)}(hW:W.length=25)(hw: ∀k,(W.getD k []).length≤8∧∀m∈W.getD k [],0< (dy m).length):CLOk k ⟨a.ms.set i x,W⟩:=
 ⟨by show(a.ms.set i x).length=5;rw[cK];exact h.ms,hW,λj hj=>by
  by_cases q:j=i
  · subst q;rw[rl (by rw[h.ms];exact hi)];exact hx
  · rw[sv q];exact(h.at' j hj).more hk,hw⟩
theorem Mz{W:List (List MsgT)}(hw: ∀k,(W.getD k []).length≤8∧∀m∈W.getD k [],0< (dy m).length)(f:Nat)(s:SaidT)(hs:0< (dy s.msg).length): ∀k,((tX W f s).getD k []).length≤8∧∀m∈(tX W f s).getD k [],0< (dy m).length:=λk=>by
 unfold tX;split
 · by_cases q:k=bB ((f:Nat):Int) s.to'
   · subst q
     by_cases hl:bB ((f:Nat):Int) s.to'<W.length
     · rw[List.getD_eq_getElem?_getD,List.getElem?_set_self hl]
       obtain⟨h1,h2⟩:=hw (bB ((f:Nat):Int) s.to');simp only[Option.getD_some];split
       · refine⟨by rw[ac,eW];omega,λm hm=>?_⟩
         rcases bP.1 hm with hm|hm
         · exact h2 m hm
         · rw[cm]at hm;subst hm;exact hs
       · exact⟨h1,h2⟩
     · rw[g9 (by omega)];exact hw _
   · rw[List.getD_eq_getElem?_getD,List.getElem?_set_ne (λe=>q e.symm),←List.getD_eq_getElem?_getD];exact hw k
 · exact hw k
theorem Dz(f:Nat): ∀(l:List SaidT) {W:List (List MsgT)},(∀x∈l,0< (dy x.msg).length)→(∀k,(W.getD k []).length≤8∧∀m∈W.getD k [],0< (dy m).length)→∀k,((gJ W f l).getD k []).length≤8∧∀m∈(gJ W f l).getD k [],0< (dy m).length
 | [],_,_,hw=>hw
 |s::l,W,hl,hw=>Dz f l (W:=tX W f s) (λx hx=>hl x (cI _ hx)) (Mz hw f s (hl s (cn ..)))
theorem DQ(W:List (List MsgT))(f:Nat)(s:SaidT):(tX W f s).length=W.length:=by unfold tX;split<;>simp
theorem tP(f:Nat): ∀(l:List SaidT) (W:List (List MsgT)),(gJ W f l).length=W.length
 | [],_=>rfl
 |s::l,W=>(tP f l _).trans (DQ W f s)
theorem MX{s:MS LD}(h:OkR KD s):OkR KD s.hush:=⟨h.e,h.id,h.view,h.own,h.mir,h.book,h.last,h.acc,h.vote⟩
def owe(s:MS LD):Nat:=if 0<s.waits then 1 else 0
theorem CLOk.did{n i k:Nat}{a:CL}(h:CLOk n a)(hk:n≤k)(hi:i<5){s s':MS LD}(hs:(a.at' i).run=some s)(h':OkR KD s'){l:List ReplyT}(r:Rp s s' l)(hl:l.length+owe s'+n≤k+owe s):CLOk k (a.did i s'):=by
 obtain⟨h1,h2,h3⟩:=(h.at' i hi).run s hs;obtain⟨lo,e,hlo⟩:=r.o;rw[h3,bG]at e;refine h.put hk hi ⟨λt q=>?_,(λq=>by cases q),?_⟩ (by rw[tP];exact h.W) (Dz i _ (λx hx=>OL (hlo x (by rw[←e];exact hx))) h.way)
 · obtain rfl:=bK q
   exact⟨MX h',r.id.trans h2,rfl⟩
 · have:=(h.at' i hi).reps
   unfold Slot.reps Slot.pend at this ⊢;rw[hs]at this;show((a.at' i).past++s'.replies).length+(if 0<s'.waits then 1 else 0)≤k;rw[r.replies];unfold owe at hl;simp only[ac]at this ⊢;omega
theorem Qt.owe{s s':MS LD}(q:Qt s s'):Api.owe s'≤Api.owe s:=by
 unfold Api.owe;rcases q.waits with e|e
 · rw[e];exact aH _
 · rw[e];exact aO _
theorem Pm(s:MS LD):owe s≤1:=by unfold owe;split<;>omega
theorem CLOk.quiet{n i:Nat}{a:CL}(h:CLOk n a)(hi:i<5){s s':MS LD}(hs:(a.at' i).run=some s)(h':OkR KD s')(q:Qt s s'):CLOk n (a.did i s'):=
 h.did (aH _) hi hs h' q.rp (by have:=q.owe;show 0+_+n≤_;omega)
theorem CLOk.onway{n k:Nat}{a:CL}(h:CLOk n a){l:List MsgT}(hl:l.length≤8∧∀m∈l,0< (dy m).length):CLOk n (a.way k l):=
 ⟨h.ms,by show(a.W.set k l).length=25;rw[cK];exact h.W,h.at',λj=>by
  show((a.W.set k l).getD j []).length≤8∧_
  by_cases q:j=k
  · subst q
    by_cases hk:j<a.W.length
    · show((a.W.set j l).getD j []).length≤8∧∀m∈(a.W.set j l).getD j [],_
      rw[List.getD_eq_getElem?_getD,List.getElem?_set_self hk];exact hl
    · show((a.W.set j l).getD j []).length≤8∧∀m∈(a.W.set j l).getD j [],_
      rw[g9 (by omega)];exact h.way j
  · show((a.W.set k l).getD j []).length≤8∧∀m∈(a.W.set k l).getD j [],_
    rw[List.getD_eq_getElem?_getD,List.getElem?_set_ne (λe=>q e.symm),←List.getD_eq_getElem?_getD];exact h.way j⟩
theorem jd{w:Int}(h:gp w=true):w.toNat<5∧((w.toNat:Nat):Int)=w:=by
 have:0≤w∧w<5:=of_decide_eq_true h;omega
theorem Na{n f t:Nat}{a:CL}(h:CLOk n a)(ht:t<5)(m:MsgT):CLOk n (p3 a f t m).1:=by
 unfold p3;split
 · exact h
 · rename_i s hs
   split
   · exact h
   · split
     · obtain⟨h1,_,_⟩:=(h.at' t ht).run s hs
       have hm:=Cj (dy m);rcases wR (K:=KD) s ((f:Nat):Int) (js (dy m)).1 with q| ⟨hw,q,q2,_⟩
       · exact h.quiet ht hs inferInstance q
       · refine h.did (aH _) ht hs inferInstance q ?_
         unfold owe;rw[q2,if_pos hw];show 1+(if(0:Int)<0 then 1 else 0)+n≤n+1;rw[if_neg (by omega)];omega
     · exact h
theorem N8{n:Nat}{a:CL}(h:CLOk n a)(o:OpT):CLOk n (n9 a o).1:=by
 unfold n9;split
 · exact h
 · rename_i hv
   have hv:dM o.at' o.to'=true:=by simpa using hv
   have hw:=h.way (bB o.at' o.to');split
   · exact h
   · rename_i m l hl
     rw[hl]at hw;split
     · split
       · refine h.onway ⟨?_,λx hx=>?_⟩
         · rename_i q
           unfold JU at q;have q:=of_decide_eq_true q;unfold FB;rw[if_pos q,ac,eW];omega
         · unfold FB at hx
           split at hx
           · rcases bP.1 hx with hx|hx
             · exact hw.2 x hx
             · rw[cm]at hx;subst hx;exact hw.2 _ (cn ..)
           · exact hw.2 x hx
       · exact h
     · split
       · exact h
       · rename_i m2 l2 hl2
         have hlen:=kH (max o.n 0% ((m::l).length:Int)).toNat (m::l);have hmem:=λx=>(pq (x:=x) (max o.n 0% ((m::l).length:Int)).toNat (m::l)).1
         rw[hl2]at hlen hmem;have g:CLOk n (a.way (bB o.at' o.to') l2):=h.onway ⟨by simp only[ah]at hlen hw;omega,λx hx=>hw.2 x (hmem x (cI _ hx))⟩
         have ht:o.to'.toNat<5:=by
          unfold dM at hv;rw[ay,ay]at hv;exact(jd hv.1.2).1
         split
         · exact g
         · exact Na g ht m2
theorem Df{n i:Nat}(hi:i<5){x:Slot}(h:SlotOk i n x):SlotOk i n (fq i x).1:=by
 unfold fq;split
 · exact h
 · rename_i hr
   have hD:=h.D hr;refine⟨λs q=>?_,λ_=>hD.open.1,?_⟩
   · obtain⟨h1,f⟩:=uW hi hD q
     exact⟨h1,f.id,f.o⟩
   · have:=h.reps
     unfold Slot.reps Slot.pend at this ⊢;rw[hr,aL]at this;show(x.past++match(cf i x.D).1 with|some s=>s.replies|none=>[]).length+(match(cf i x.D).1 with|some s=>if 0<s.waits then 1 else 0|none=>0)≤n;cases q:(cf i x.D).1 with
     |some s=>
      have f:=(uW hi hD q).2;simp only[f.replies,f.waits,aL]
      simpa using this
     |none=>simpa using this
theorem arm_ok{n i:Nat}{x:Slot}(h:SlotOk i n x){k:Int}(hk:k≤9223372036854775807):SlotOk i n (qe x k):=by
 unfold qe;split
 · rename_i s hs
   obtain⟨h1,h2,h3⟩:=h.run s hs;refine⟨λt q=>?_,(λq=>by cases q),?_⟩
   · obtain rfl:=bK q
     exact⟨⟨⟨h1.e.dk.arm k hk,h1.e.used,h1.e.cnt⟩,h1.id,h1.view,h1.own,h1.mir,h1.book,h1.last,h1.acc,h1.vote⟩,h2,h3⟩
   · have:=h.reps
     unfold Slot.reps Slot.pend at this ⊢;rw[hs]at this;exact this
 · rename_i hr
   refine⟨λt q=>?_,λ_=>(h.D hr).arm k hk,?_⟩
   · rw[show x.run=some t from q]at hr;cases hr
   · have:=h.reps
     unfold Slot.reps Slot.pend at this ⊢;rw[hr]at this;simp only[hr];exact this
theorem crash_ok{n i:Nat}{x:Slot}(h:SlotOk i n x)(mask torn cut:Int):SlotOk i n (oI x mask torn cut):=
 ⟨(λt q=>by cases q),λ_=>h.dk.crash mask torn cut,by
  have:=h.reps;show(x.reps++[]).length+0≤n
  rw[aL];omega⟩
theorem OT{n:Nat}{a:CL}(h:CLOk n a){o:OpT}(ho:OkOp o)(hk: ¬(0≤o.kind∧o.kind≤4)):CLOk n (zy a o).1:=by
 unfold zy;split
 · exact h
 rename_i hm;have hm:gp o.at'=true:=by simpa using hm
 have hi:=(jd hm).1;split
 · exact N8 h o
 split
 · unfold xj
   split
   · exact h
   · rename_i s hs
     split
     · exact h
     · obtain⟨h1,_,_⟩:=(h.at' _ hi).run s hs
       exact h.quiet hi hs inferInstance inferInstance
 split
 · exact h.put (aH _) hi (arm_ok (h.at' _ hi) ho.n) h.W h.way
 split
 · exact h.put (aH _) hi (crash_ok (h.at' _ hi) _ _ _) h.W h.way
 split
 · exact h.put (aH _) hi (Df hi (h.at' _ hi)) h.W h.way
 · exact h
theorem HB{n:Nat}{a:CL}(h:CLOk n a){o:OpT}(ho:OkOp o):CLOk (n+1) (zy a o).1:=by
 by_cases hk:0≤o.kind∧o.kind≤4
 · unfold zy
   split
   · exact h.more (by omega)
   rename_i hm;have hm:gp o.at'=true:=by simpa using hm
   have hi:=(jd hm).1;unfold yQ;split
   · exact h.more (by omega)
   · rename_i s hs
     split
     · exact h.more (by omega)
     · obtain⟨h1,_,_⟩:=(h.at' _ hi).run s hs
       have:=ho.change;rcases AX (K:=KD) s o with⟨e,v,q,_,_,w⟩| ⟨q,_⟩
       · refine h.did (by omega) hi hs inferInstance q ?_
         have:owe (bL KD s o).1≤owe s:=by
          unfold owe;rcases w with e|e
          · rw[e];exact aH _
          · rw[e];exact aO _
         show 1+_+n≤_;omega
       · refine h.did (by omega) hi hs inferInstance q ?_
         have:=Pm (bL KD s o).1;show 0+_+n≤_;omega
 · exact(OT h ho hk).more (by omega)
theorem new_ok:CLOk 0 CL.new:=by
 refine⟨by simp[CL.new],by simp[CL.new],λi hi=>?_,λk=>?_⟩
 · have e:CL.new.at' i=iQ i:=by simp[CL.new,CL.at',List.getD_eq_getElem?_getD,hi]
   rw[e];exact Df hi ⟨(λs q=>by cases q),λ_=>DkOk.new,aH _⟩
 · have e:CL.new.W.getD k []=[]:=by
    show(List.replicate 25 ([]:List MsgT)).getD k []=[];rw[List.getD_eq_getElem?_getD,List.getElem?_replicate];split<;>rfl
   rw[e];exact⟨aO _,λm hm=>by cases hm⟩
theorem BF: ∀(l:List OpT) {n:Nat} {a:CL},CLOk n a→(∀o∈l,OkOp o)→CLOk (n+l.length) (qR a l)
 | [],_,_,h,_=>h
 |o::l,n,a,h,ho=>by
  have:=BF l (HB h (ho o (cn ..))) λx hx=>ho x (cI _ hx)
  rw[ah,show n+(l.length+1)=n+1+l.length by omega];exact this
end Api
end

section
namespace Go.Proofs.YtfocodjhmkokpaaGreatDoor
open Go Leg Codec Api
theorem xV(ob:Nat)(ok:Bool):DoesD Tryz.prog 140 #[(.pointer (some ⟨ob,0,none⟩))] (.returning) (λ_=>True) [ak ob [(.bool (ok))] 4] (λe u' H=>e= .returned (.tuple #[])∧settle u'= .returning∧H=[ak ob [.bool ok] 4]):=by
 refine DoesD.recover2 (vs:=[(.pointer (some ⟨ob,0,none⟩))]) (n:=15) (u':= .returning) (rv:= .nilIface) Tryz.func140 rfl rfl rfl rfl rfl rfl rfl rfl rfl rfl rfl (λc0 cs hu=>by cases c0;simp only at hu;subst hu;rfl) (λw0 F c0 cs hF=>?_);refine aa (λK1 hK1=>?_);refine aa (λK2 hK2=>?_);refine af ?_;refine mx (ab rfl) rfl rfl (kf rfl rfl) ?_;refine mx (ab rfl) rfl rfl (PV.nilNil rfl Tryz.underlying20 rfl) ?_;refine ax ?_;refine ae hK2 ?_;clear hK2;refine od rfl ?_;refine aj ?_;refine ag ?_;clear hK1;refine aF (dH _) (λ_ s=>an [0] rfl s) ?_;refine TE.retS0 rfl ?_;refine⟨rfl,rfl,?_⟩;rfl
theorem BP(ob:Nat)(ok:Bool):DoesD Tryz.prog 140 #[(.pointer (some ⟨ob,0,none⟩))] (.panicking iS) (λ_=>True) [ak ob [(.bool (ok))] 4] (λe u' H=>e= .returned (.tuple #[])∧settle u'= .returning∧H=[ak ob [.bool false] 4]):=by
 refine DoesD.recover2 (vs:=[(.pointer (some ⟨ob,0,none⟩))]) (n:=15) (u':= .panicking [{v:=(.iface 221 (.agg #[])),recovered:=true}]) (rv:=(.iface 221 (.agg #[]))) Tryz.func140 rfl rfl rfl rfl rfl rfl rfl rfl rfl rfl rfl (λc0 cs hu=>by cases c0;simp only at hu;subst hu;rfl) (λw0 F c0 cs hF=>?_);refine aa (λK1 hK1=>?_);refine aa (λK2 hK2=>?_);refine af ?_;refine mx (ab rfl) rfl rfl (kf rfl rfl) ?_;refine mx (ab rfl) rfl rfl (PV.ifaceNil rfl Tryz.underlying20 rfl) ?_;refine ax ?_;refine ae hK2 ?_;clear hK2;refine HJ rfl ?_;refine aV ?_;refine ae hK1 ?_;clear hK1;refine aa (λK3 hK3=>?_);refine aa (λK4 hK4=>?_);refine af ?_;refine mx (ab rfl) rfl rfl (kf rfl rfl) ?_;refine mx (ab rfl) rfl rfl (PV.assert rfl JE rfl rfl) ?_;refine mx (ab rfl) rfl rfl (kf rfl rfl) ?_;refine mx (ab rfl) rfl rfl (ix (vs:=[.agg #[], .bool true]) rfl rfl rfl) ?_;refine mx (ab rfl) rfl rfl (ix (vs:=[.agg #[], .bool true]) rfl rfl rfl) ?_;refine rr (ab rfl) rfl rfl rfl Rg (λb2=>?_);change TL _ _ _ _ _ _ _ _ _ [ak b2 [] 221,ak ob [(.bool (ok))] 4];refine bT (vs:=[]) (i:=0) (H':=[ak b2 [] 221,ak ob [(.bool (ok))] 4]) (ab rfl) rfl rfl rfl rfl rfl Pj (by simp[Value.oneCell']) rfl rfl (MV rfl) rfl rfl ?_;refine mx (ab rfl) rfl rfl (Si rfl rfl) ?_;refine ax ?_;refine ae hK4 ?_;clear hK4;refine aa (λK5 hK5=>?_);refine af ?_;refine mx (ab rfl) rfl rfl (kf rfl rfl) ?_;refine mx (ab rfl) rfl rfl (nq (r:=false) rfl rfl rfl) ?_;refine ax ?_
 refine ae hK5 ?_;clear hK5;refine HJ rfl ?_;refine aV ?_;refine ae hK3 ?_;clear hK3;refine af ?_;refine bF (i:=1) (H':=[ak b2 [] 221,ak ob [(.bool false)] 4]) (ab rfl) rfl rfl rfl rfl rfl lK rfl rfl (lb rfl) rfl rfl ?_;refine ax ?_;refine aF (dH _) (λ_ s=>an [1] rfl s) ?_;refine TE.endS0 rfl ?_;refine⟨rfl,rfl,?_⟩;exact rfl
theorem Iw{fid:Nat}{caps:List Value}{x:Value}{bs:List UInt8}{C G:HP}{A:List UInt8→HP}{R:Hl→Prop}(hR: ∀F,R F→IsB x bs F)(hmono: ∀F g,R F→Dj g F→R (jn g F))(hN:Named Tryz.prog fid)
 (hc: ∀rb,DT fid ([Value.pointer (some ⟨rb,0,none⟩)]++caps).toArray R [ak rb [x] 219,C] (wI (λ_ H=>∃x' r,H=[ak rb [x'] 219,A r]∧Tail x bs x' r) (λc H=>c=iS∧∃x',H=[ak rb [x'] 219,G]))):
 DT 105 #[x, .func (.func fid) #[] caps.toArray] R [C] (dA (λv H=>(∃r,v= .bool (decide (r=[]))∧H=[A r])∨(v= .bool false∧H=[G]))):=by
 refine Leg.Does.bodyD (vs:=[x, .func (.func fid) #[] caps.toArray]) (n:=21) Tryz.func105 rfl rfl rfl (λw0 F hF=>sr λ_ J1=>XA z4 λb4=>?_);refine nx J1 (sr λ_ J2=>PS ?_);refine tp (PV.buildOne rfl Cy Rh rfl ld rfl (hR _ hF).one) ?_;refine XB λb8=>?_
 refine PS ?_;refine nx J2 (sr λ_ J3=>tp (Sh rfl rfl) ?_);refine TL.deferFn (ab rfl) rfl rfl rfl (nx J3 (aa λ_ J4=>sr λ_ J5=>PS ?_));refine tp (PV.funcNeqNil rfl Tryz.underlying193 rfl) ?_;refine nx J5 (CY (af (P2 ?_)));refine TL.callPv (ab rfl) rfl rfl rfl rfl hN rfl (hc b8) (λ_ s=>aD [0,1] rfl s) (O3 hmono hF) (λcP HP hP=>?_) (λvR HR hR'=>?_);obtain⟨rfl,x',rfl⟩:=hP;refine aA ?_;intro a w fr sm m;refine sR (b:=b4) (e:=4) (A:=[ak b4 [(.bool false)] 4]) (B:=[ak b8 [x'] 219,G]) (H':=[G]) fr sm m (by simp) KU (BP b4 _) (λ_ s=>aD [2] rfl s) (λ_ _ _=>trivial) rfl rfl Y4 rfl (λH1 h1=>?_);subst h1;refine⟨[.bool false], .bool false,fj 0 rfl rfl,rfl,λ_ s=>an [2] rfl s,?_⟩;exact .inr ⟨rfl,rfl⟩;obtain⟨x',r,rfl,htl⟩:=hR';have hB:=htl F (hR _ hF);rcases hB with⟨rfl,rfl⟩| ⟨b,off,cap,cs,T,z,rfl,hB1,hB2,hB3,hB4⟩
 refine nx J4 (sr λ_ J6=>P2 ?_);refine FA 0 Cy ld ?_;refine LA 0 gA ?_;refine tp (n4 rfl gA rfl) ?_;refine PS ?_;refine S0 2 lK ?_;refine nx J6 (aj ?_);intro a w fr sm m;refine sR (b:=b4) (e:=4) (A:=[ak b4 [(.bool true)] 4]) (B:=[ak b8 [(.slice none 0 0)] 219,(A [])]) (H':=[(A [])]) fr sm m (by simp) KU (xV b4 _) (λ_ s=>aD [2] rfl s) (λ_ _ _=>trivial) rfl rfl Y4 rfl (λH1 h1=>?_);subst h1;refine⟨[.bool true], .bool true,fj 0 rfl rfl,rfl,λ_ s=>an [2] rfl s,?_⟩;exact .inl ⟨[],rfl,rfl⟩;refine nx J4 (sr λ_ J7=>P2 ?_);refine FA 0 Cy ld ?_;refine LA 0 gA ?_;refine tp (n4 rfl gA rfl) ?_;refine PS ?_;refine S0 2 lK ?_;refine nx J7 (aj ?_);intro a w fr sm m;refine sR (b:=b4) (e:=4) (A:=[ak b4 [(.bool (decide (((r.length:Nat):Int)=0)))] 4]) (B:=[ak b8 [(.slice (some ⟨b,off,none⟩) (r.length) (cap))] 219,(A r)]) (H':=[(A r)]) fr sm m (by simp) KU (xV b4 _) (λ_ s=>aD [2] rfl s) (λ_ _ _=>trivial) rfl rfl Y4 rfl (λH1 h1=>?_);subst h1;refine⟨[.bool (decide (((r.length:Nat):Int)=0))], .bool (decide (((r.length:Nat):Int)=0)),fj 0 rfl rfl,rfl,λ_ s=>an [2] rfl s,?_⟩;exact .inl ⟨r,by congr 1;rw[decide_eq_decide];cases r<;>simp<;>omega,rfl⟩
theorem An{fid:Nat}{caps:List Value}{x:Value}{bs:List UInt8}{α β:Type}{C:List HP}{A:α→List HP}{G:β→List HP}{φ:α→List UInt8→Prop}{ψ:β→Prop}{R:Hl→Prop}(hR: ∀F,R F→IsB x bs F)(hmono: ∀F g,R F→Dj g F→R (jn g F))(hN:Named Tryz.prog fid)
 (hc: ∀rb,DT fid ([Value.pointer (some ⟨rb,0,none⟩)]++caps).toArray R (ak rb [x] 219::C) (wI (λ_ H=>∃x' r a,H=ak rb [x'] 219::A a∧Tail x bs x' r∧φ a r) (λc H=>c=iS∧∃x' b,H=ak rb [x'] 219::G b∧ψ b))):
 DT 105 #[x, .func (.func fid) #[] caps.toArray] R C (dA (λv H=>(∃r a,v= .bool (decide (r=[]))∧H=A a∧φ a r)∨(∃b,v= .bool false∧H=G b∧ψ b))):=by
 have h1:=Iw (C:=all C) (G:=λh=>∃b,ψ b∧bH (G b) h) (A:=λr h=>∃a,φ a r∧bH (A a) h) hR hmono hN λrb=>
  (hc rb).conv (post':=wI (λ_ H=>∃x' r,H=[ak rb [x'] 219,λh=>∃a,φ a r∧bH (A a) h]∧Tail x bs x' r) (λc H=>c=iS∧∃x',H=[ak rb [x'] 219,λh=>∃b,ψ b∧bH (G b) h]))
   (λh s=>xB s λ_=>Ng)
   (λe H F w hp m=>by
    cases e with
    |returned v=>
     obtain⟨x',r,a,rfl,ht,hf⟩:=hp;exact⟨[ak rb [x'] 219,λh=>∃a,φ a r∧bH (A a) h],m.mono λh s=>xB s λh s=>sI ⟨a,hf,s⟩,x',r,rfl,ht⟩
    |panicked c=>
     obtain⟨hc,x',b,rfl,hf⟩:=hp;exact⟨[ak rb [x'] 219,λh=>∃b,ψ b∧bH (G b) h],m.mono λh s=>xB s λh s=>sI ⟨b,hf,s⟩,hc,x',rfl⟩
    |outgrown=>exact hp.elim)
 refine h1.conv (λh s=>Ms s) λe H F w hp m=>?_
 cases e with
 |returned v=>
  rcases hp with⟨r,hv,rfl⟩| ⟨hv,rfl⟩
  · obtain⟨h,d,e,g1,g2,d',rfl,⟨a,hf,s⟩,_⟩:=m
    exact⟨A a,⟨_,d,e,mg _ s d'⟩, .inl ⟨r,a,hv,rfl,hf⟩⟩
  · obtain⟨h,d,e,g1,g2,d',rfl,⟨b,hf,s⟩,_⟩:=m
    exact⟨G b,⟨_,d,e,mg _ s d'⟩, .inr ⟨b,hv,rfl,hf⟩⟩
 |panicked c=>exact hp.elim
 |outgrown=>exact hp.elim
theorem BO(rb:Nat)(v:Value)(bs:List UInt8):
 DT 120 #[(.pointer (some ⟨rb,0,none⟩))] (IsB v bs) [ak rb [v] 219] (oK 219 iS (λmb:MsgT×Bool=> .tuple #[.agg (ints mb.1.flat).toArray, .bool mb.2]) cY v bs rb):=by
 refine BD 85 Tryz.func120 rfl rfl rfl λw0 F hF=>sr λ_ J1=>XZ mZ (ints MsgT.zero.flat) λb2=>?_
 refine PS ?_;refine nx J1 (sr λ_ J2=>PS ?_);refine CP jL (c8 rb v bs (10)) (SM [1]) (λ_ d _=>(hF).more d) (λcP HP hP=>?_) (λvR HR hR=>?_);obtain⟨vP,rfl,rfl,hpP⟩:=hP;refine aA (WK [0] (aU ?_));exact⟨_,rfl,rfl,by simp[cY,ca hpP, *]⟩;obtain⟨a1,r1,v1,rfl,rfl,hp1,ht1⟩:=hR;have hf1:=ht1 _ hF;refine tp (mI MsgT.zero (MsgT.mk a1 0 RowT.zero 0 0 BallotT.zero BallotT.zero ChangeT.zero ViewT.zero) [(0,[Value.int .i64 a1])] bj bA (g:=MsgT.sg)) ?_;refine XZ mZ (ints MsgT.zero.flat) λb4=>?_
 refine SW 0 cp aJ ?_;refine nx J2 (aa λ_ J3=>sr λ_ J4=>FA 0 bj aR ?_);refine LT 0 Y3 (.int .i64 (a1)) ?_ (hc:=by exact eZ _ rfl);refine nx J4 (av (aa λ_ J5=>e7 (α:=Unit) (λ_u=>True) (λ_u=>[(0,(.pointer (some ⟨rb,0,none⟩))),(2,(.pointer (some ⟨b2,0,none⟩))),(3,(.bool false)),(4,(.pointer (some ⟨b4,0,none⟩))),(9,(.int .i64 (a1))),(10,(.bool ((eF a1))))]) (λ_u=>[ak b4 (ints (MsgT.mk a1 0 RowT.zero 0 0 BallotT.zero BallotT.zero ChangeT.zero ViewT.zero).flat) 163,ak rb [v1] 219,ak b2 (ints MsgT.zero.flat) 163]) (λ_u hinv=>?_) (λtl5=>?_)));have _:=hinv;refine ae J5 (TC.cond rfl (λh10=>?_) (λh10=>?_));refine sr λ_ J6=>PS ?_
 refine CP jL (c8 rb v1 r1 (5)) (SM [1]) (λ_ d _=>(hf1).more d) (λcP HP hP=>?_) (λvR HR hR=>?_);obtain⟨vP,rfl,rfl,hpP⟩:=hP;refine aA (aQ (aA (WK [0] (aU ?_))));exact⟨_,rfl,rfl,by simp[cY,aE hp1,ca hpP,h10, *]⟩;obtain⟨a2,r2,v2,rfl,rfl,hp2,ht2⟩:=hR;have hf2:=ht2 _ hf1;refine FA 1 bj aR ?_;refine SS 1 aR (aJ _) (MsgT.set_whose _ rfl _) ?_;refine nx J6 (sr λ_ J7=>PS ?_);refine CP KT (u7 rb v2 r2) ID (λ_ d _=>(hf2).more d) (λcP HP hP=>?_) (λvR HR hR=>?_);obtain⟨vP,rfl,rfl,hpP⟩:=hP;refine aA (aQ (aA (WK [0] (aU ?_))));exact⟨_,rfl,rfl,by simp[cY,aE hp1,aE hp2,ca hpP,h10, *]⟩;obtain⟨a3,r3,v3,rfl,rfl,hp3,ht3⟩:=hR;have hf3:=ht3 _ hf2;refine FA 2 bj bg ?_;refine SP 1 bg am aJ MsgT.wp_row ?_;refine nx J7 (aa λ_ J8=>D1 1 mixed ?_);refine LY 0 bj cp aJ ?_;refine FD 1 2 bj bg ?_;refine ta 2 rfl (aP (vs:=ints a3.flat) rfl ec rfl bg rfl (λ_ h=>h.2.1) (am a3) (mO (MsgT.mk a1 a2 a3 0 0 BallotT.zero BallotT.zero ChangeT.zero ViewT.zero) 0 rfl (by decide) (whole (am a3)))) ?_;refine AL 3 ?_;refine CE KH (kl a3 (BG hp3)) ID ?_;refine EN (AL 4 ?_);refine SW 2 cp aJ ?_;refine EN (PD 5 ?_);refine DN (ae J8 (aj (aK (ag (RT 2 [0] bj cp (aJ _) ?_)))));exact⟨((MsgT.mk a1 a2 a3 0 0 BallotT.zero BallotT.zero ChangeT.zero ViewT.zero),(fF a3)),_,_,rfl,rfl,by simp[cY,pr,aE hp1,aE hp2,aE hp3,h10,MsgT.zero,RecT.zero, *],(ht1.trans (ht2.trans ht3))⟩;refine sr λ_ J9=>PS ?_
 refine aq ?_ ?_<;>intro h25;refine PS ?_;refine nx J9 (CY (af (PS ?_)));refine CP qW (jK rb v1 r1) (SM [1]) (λ_ d _=>(hf1).more d) (λcP HP hP=>?_) (λvR HR hR=>?_);obtain⟨vP,rfl,rfl,hpP⟩:=hP;refine aQ (aA (WK [0] (aU ?_)));exact⟨_,rfl,rfl,by simp[cY,eF,fa,aE hp1,ca hpP,h10,h25, *]⟩;obtain⟨a2,r2,v2,rfl,rfl,hp2,ht2⟩:=hR;have hf2:=ht2 _ hf1;refine FA 176 bj aR ?_;refine SS 1 aR (aJ _) (MsgT.set_version _ rfl _) ?_;refine ax (ai (ae J3 (sr λ_ J10=>LW 1 bj cp aJ ?_)));refine SW 2 cp aJ ?_;refine PS ?_;refine nx J10 (aj (RT 2 [0] bj cp (aJ _) ?_));exact⟨((MsgT.mk a1 0 RowT.zero a2 0 BallotT.zero BallotT.zero ChangeT.zero ViewT.zero),true),_,_,rfl,rfl,by simp[cY,eF,fa,pr,aE hp1,aE hp2,h10,h25,MsgT.zero,RecT.zero, *],(ht1.trans ht2)⟩;refine PS ?_;refine nx J9 (CN (aa λ_ J11=>e7 (α:=Unit) (λ_u=>True) (λ_u=>[(0,(.pointer (some ⟨rb,0,none⟩))),(2,(.pointer (some ⟨b2,0,none⟩))),(3,(.bool false)),(4,(.pointer (some ⟨b4,0,none⟩))),(9,(.int .i64 (a1))),(29,(.bool ((fa a1))))]) (λ_u=>[ak b4 (ints (MsgT.mk a1 0 RowT.zero 0 0 BallotT.zero BallotT.zero ChangeT.zero ViewT.zero).flat) 163,ak rb [v1] 219,ak b2 (ints MsgT.zero.flat) 163]) (λ_u hinv=>?_) (λtl11=>?_)));have _:=hinv;refine ae J11 (TC.cond rfl (λh29=>?_) (λh29=>?_));refine sr λ_ J12=>PS ?_
 refine CP qW (jK rb v1 r1) (SM [1]) (λ_ d _=>(hf1).more d) (λcP HP hP=>?_) (λvR HR hR=>?_);obtain⟨vP,rfl,rfl,hpP⟩:=hP;refine aA (aQ (aA (WK [0] (aU ?_))));exact⟨_,rfl,rfl,by simp[cY,aE hp1,ca hpP,h10,h25,h29, *]⟩;obtain⟨a2,r2,v2,rfl,rfl,hp2,ht2⟩:=hR;have hf2:=ht2 _ hf1;refine FA 177 bj aR ?_;refine SS 1 aR (aJ _) (QO _ rfl _) ?_;refine nx J12 (af (PS ?_));refine CP Ay (jY rb v2 r2) ID (λ_ d _=>(hf2).more d) (λcP HP hP=>?_) (λvR HR hR=>?_);obtain⟨vP,rfl,rfl,hpP⟩:=hP;refine aQ (aA (WK [0] (aU ?_)));exact⟨_,rfl,rfl,by simp[cY,aE hp1,aE hp2,ca hpP,h10,h25,h29, *]⟩;obtain⟨a3,r3,v3,rfl,rfl,hp3,ht3⟩:=hR;have hf3:=ht3 _ hf2;refine FA 178 bj cH ?_;refine SP 1 cH au aJ QN ?_;refine ax (ai (ae J3 (sr λ_ J13=>LW 1 bj cp aJ ?_)));refine SW 2 cp aJ ?_;refine PS ?_;refine nx J13 (aj (RT 2 [0] bj cp (aJ _) ?_));exact⟨((MsgT.mk a1 0 RowT.zero 0 a2 a3 BallotT.zero ChangeT.zero ViewT.zero),true),_,_,rfl,rfl,by simp[cY,pr,aE hp1,aE hp2,aE hp3,h10,h25,h29,MsgT.zero,RecT.zero, *],(ht1.trans (ht2.trans ht3))⟩;refine sr λ_ J14=>PS ?_
 refine aq ?_ ?_<;>intro h39;refine PS ?_;refine nx J14 (CY (sr λ_ J15=>PS ?_));refine CP qW (jK rb v1 r1) (SM [1]) (λ_ d _=>(hf1).more d) (λcP HP hP=>?_) (λvR HR hR=>?_);obtain⟨vP,rfl,rfl,hpP⟩:=hP;refine aA (aQ (aA (WK [0] (aU ?_))));exact⟨_,rfl,rfl,by simp[cY,eF,fa,aE hp1,ca hpP,h10,h25,h29,h39, *]⟩;obtain⟨a2,r2,v2,rfl,rfl,hp2,ht2⟩:=hR;have hf2:=ht2 _ hf1;refine FA 177 bj aR ?_;refine SS 1 aR (aJ _) (QO _ rfl _) ?_;refine nx J15 (sr λ_ J16=>PS ?_);refine CP Ay (jY rb v2 r2) ID (λ_ d _=>(hf2).more d) (λcP HP hP=>?_) (λvR HR hR=>?_);obtain⟨vP,rfl,rfl,hpP⟩:=hP;refine aA (aQ (aA (WK [0] (aU ?_))));exact⟨_,rfl,rfl,by simp[cY,eF,fa,aE hp1,aE hp2,ca hpP,h10,h25,h29,h39, *]⟩;obtain⟨a3,r3,v3,rfl,rfl,hp3,ht3⟩:=hR;have hf3:=ht3 _ hf2;refine FA 178 bj cH ?_;refine SP 1 cH au aJ QN ?_;refine nx J16 (sr λ_ J17=>PS ?_);refine CP Ay (jY rb v3 r3) ID (λ_ d _=>(hf3).more d) (λcP HP hP=>?_) (λvR HR hR=>?_);obtain⟨vP,rfl,rfl,hpP⟩:=hP;refine aA (aQ (aA (WK [0] (aU ?_))));exact⟨_,rfl,rfl,by simp[cY,eF,fa,aE hp1,aE hp2,aE hp3,ca hpP,h10,h25,h29,h39, *]⟩;obtain⟨a4,r4,v4,rfl,rfl,hp4,ht4⟩:=hR;have hf4:=ht4 _ hf3;refine FA 180 bj cH ?_;refine SP 1 cH au aJ MsgT.wp_had ?_;refine nx J17 (af (PS ?_));refine CP KS (pC rb v4 r4) ID (λ_ d _=>(hf4).more d) (λcP HP hP=>?_) (λvR HR hR=>?_);obtain⟨vP,rfl,rfl,hpP⟩:=hP
 refine aQ (aA (WK [0] (aU ?_)));exact⟨_,rfl,rfl,by simp[cY,eF,fa,aE hp1,aE hp2,aE hp3,aE hp4,ca hpP,h10,h25,h29,h39, *]⟩;obtain⟨a5,r5,v5,rfl,rfl,hp5,ht5⟩:=hR;have hf5:=ht5 _ hf4;refine FA 182 bj fT ?_;refine SP 1 fT aN aJ QM ?_;refine ax (ai (ae J3 (sr λ_ J18=>LW 1 bj cp aJ ?_)));refine SW 2 cp aJ ?_;refine PS ?_;refine nx J18 (aj (RT 2 [0] bj cp (aJ _) ?_));exact⟨((MsgT.mk a1 0 RowT.zero 0 a2 a3 a4 a5 ViewT.zero),true),_,_,rfl,rfl,by simp[cY,eF,fa,pr,aE hp1,aE hp2,aE hp3,aE hp4,aE hp5,h10,h25,h29,h39,MsgT.zero,RecT.zero, *],(ht1.trans (ht2.trans (ht3.trans (ht4.trans ht5))))⟩;refine PS ?_;refine nx J14 (CN (sr λ_ J19=>PS ?_));refine aq ?_ ?_<;>intro h53;refine PS ?_;refine nx J19 (CY (sr λ_ J20=>PS ?_));refine CP qW (jK rb v1 r1) (SM [1]) (λ_ d _=>(hf1).more d) (λcP HP hP=>?_) (λvR HR hR=>?_);obtain⟨vP,rfl,rfl,hpP⟩:=hP;refine aA (aQ (aA (WK [0] (aU ?_))));exact⟨_,rfl,rfl,by simp[cY,eF,fa,aE hp1,ca hpP,h10,h25,h29,h39,h53, *]⟩;obtain⟨a2,r2,v2,rfl,rfl,hp2,ht2⟩:=hR;have hf2:=ht2 _ hf1;refine FA 177 bj aR ?_;refine SS 1 aR (aJ _) (QO _ rfl _) ?_;refine nx J20 (sr λ_ J21=>PS ?_);refine CP Ay (jY rb v2 r2) ID (λ_ d _=>(hf2).more d) (λcP HP hP=>?_) (λvR HR hR=>?_);obtain⟨vP,rfl,rfl,hpP⟩:=hP;refine aA (aQ (aA (WK [0] (aU ?_))));exact⟨_,rfl,rfl,by simp[cY,eF,fa,aE hp1,aE hp2,ca hpP,h10,h25,h29,h39,h53, *]⟩
 obtain⟨a3,r3,v3,rfl,rfl,hp3,ht3⟩:=hR;have hf3:=ht3 _ hf2;refine FA 178 bj cH ?_;refine SP 1 cH au aJ QN ?_;refine nx J21 (af (PS ?_));refine CP KS (pC rb v3 r3) ID (λ_ d _=>(hf3).more d) (λcP HP hP=>?_) (λvR HR hR=>?_);obtain⟨vP,rfl,rfl,hpP⟩:=hP;refine aQ (aA (WK [0] (aU ?_)));exact⟨_,rfl,rfl,by simp[cY,eF,fa,aE hp1,aE hp2,aE hp3,ca hpP,h10,h25,h29,h39,h53, *]⟩;obtain⟨a4,r4,v4,rfl,rfl,hp4,ht4⟩:=hR;have hf4:=ht4 _ hf3;refine FA 182 bj fT ?_;refine SP 1 fT aN aJ QM ?_;refine ax (ai (ae J3 (sr λ_ J22=>LW 1 bj cp aJ ?_)));refine SW 2 cp aJ ?_;refine PS ?_;refine nx J22 (aj (RT 2 [0] bj cp (aJ _) ?_));exact⟨((MsgT.mk a1 0 RowT.zero 0 a2 a3 BallotT.zero a4 ViewT.zero),true),_,_,rfl,rfl,by simp[cY,eF,fa,pr,aE hp1,aE hp2,aE hp3,aE hp4,h10,h25,h29,h39,h53,MsgT.zero,RecT.zero, *],(ht1.trans (ht2.trans (ht3.trans ht4)))⟩;refine PS ?_;refine nx J19 (CN (sr λ_ J23=>PS ?_));refine aq ?_ ?_<;>intro h64;refine PS ?_;refine nx J23 (CY (sr λ_ J24=>PS ?_));refine CP KR (sK rb v1 r1) (SM [1]) (λ_ d _=>(hf1).more d) (λcP HP hP=>?_) (λvR HR hR=>?_);obtain⟨vP,rfl,rfl,hpP⟩:=hP;refine aA (aQ (aA (WK [0] (aU ?_))));exact⟨_,rfl,rfl,by simp[cY,eF,fa,aE hp1,ca hpP,h10,h25,h29,h39,h53,h64, *]⟩;obtain⟨a2,r2,v2,rfl,rfl,hp2,ht2⟩:=hR;have hf2:=ht2 _ hf1;refine FA 185 bj bm ?_;refine SP 1 bm ap aJ MsgT.wp_view ?_;refine nx J24 (aa λ_ J25=>D1 1 mixed ?_)
 refine LY 0 bj cp aJ ?_;refine FD 1 185 bj bm ?_;refine ta 2 rfl (aP (vs:=ints a2.flat) rfl eO rfl bm rfl (λ_ h=>h.2.1) (ap a2) (wM (MsgT.mk a1 0 RowT.zero 0 0 BallotT.zero BallotT.zero ChangeT.zero a2) 0 rfl (by decide) (whole (ap a2)))) ?_;refine AL 3 ?_;refine CE KQ (nA a2 (tA hp2)) ID ?_;refine EN (AL 4 ?_);refine SW 2 cp aJ ?_;refine EN (PD 5 ?_);refine DN (ae J25 (aj (aK (ag (RT 2 [0] bj cp (aJ _) ?_)))));exact⟨((MsgT.mk a1 0 RowT.zero 0 0 BallotT.zero BallotT.zero ChangeT.zero a2),(kJ a2)),_,_,rfl,rfl,by simp[cY,eF,fa,pr,aE hp1,aE hp2,h10,h25,h29,h39,h53,h64,MsgT.zero,RecT.zero, *],(ht1.trans ht2)⟩;refine PS ?_;refine nx J23 (CN (sr λ_ J26=>PS ?_));refine aq ?_ ?_<;>intro h73;refine PS ?_;refine nx J26 (CY (sr λ_ J27=>PS ?_));refine CP jL (c8 rb v1 r1 (5)) (SM [1]) (λ_ d _=>(hf1).more d) (λcP HP hP=>?_) (λvR HR hR=>?_);obtain⟨vP,rfl,rfl,hpP⟩:=hP;refine aA (aQ (aA (WK [0] (aU ?_))));exact⟨_,rfl,rfl,by simp[cY,eF,fa,aE hp1,ca hpP,h10,h25,h29,h39,h53,h64,h73, *]⟩;obtain⟨a2,r2,v2,rfl,rfl,hp2,ht2⟩:=hR;have hf2:=ht2 _ hf1;refine FA 1 bj aR ?_;refine SS 1 aR (aJ _) (MsgT.set_whose _ rfl _) ?_;refine nx J27 (sr λ_ J28=>PS ?_);refine CP KR (sK rb v2 r2) ID (λ_ d _=>(hf2).more d) (λcP HP hP=>?_) (λvR HR hR=>?_);obtain⟨vP,rfl,rfl,hpP⟩:=hP;refine aA (aQ (aA (WK [0] (aU ?_))))
 exact⟨_,rfl,rfl,by simp[cY,eF,fa,aE hp1,aE hp2,ca hpP,h10,h25,h29,h39,h53,h64,h73, *]⟩;obtain⟨a3,r3,v3,rfl,rfl,hp3,ht3⟩:=hR;have hf3:=ht3 _ hf2;refine FA 185 bj bm ?_;refine SP 1 bm ap aJ MsgT.wp_view ?_;refine nx J28 (aa λ_ J29=>D1 1 mixed ?_);refine LY 0 bj cp aJ ?_;refine FD 1 185 bj bm ?_;refine ta 2 rfl (aP (vs:=ints a3.flat) rfl eO rfl bm rfl (λ_ h=>h.2.1) (ap a3) (wM (MsgT.mk a1 a2 RowT.zero 0 0 BallotT.zero BallotT.zero ChangeT.zero a3) 0 rfl (by decide) (whole (ap a3)))) ?_;refine AL 3 ?_;refine CE KQ (nA a3 (tA hp3)) ID ?_;refine EN (AL 4 ?_);refine SW 2 cp aJ ?_;refine EN (PD 5 ?_);refine DN (ae J29 (aj (aK (ag (RT 2 [0] bj cp (aJ _) ?_)))));exact⟨((MsgT.mk a1 a2 RowT.zero 0 0 BallotT.zero BallotT.zero ChangeT.zero a3),(kJ a3)),_,_,rfl,rfl,by simp[cY,eF,fa,pr,aE hp1,aE hp2,aE hp3,h10,h25,h29,h39,h53,h64,h73,MsgT.zero,RecT.zero, *],(ht1.trans (ht2.trans ht3))⟩;refine PS ?_;refine nx J26 (CN (aV (ai (ae J3 (sr λ_ J30=>LW 0 bj cp aJ ?_)))));refine SW 2 cp aJ ?_;refine PS ?_;refine nx J30 (aj (RT 2 [1] bj cp (aJ _) ?_));exact⟨((MsgT.mk a1 0 RowT.zero 0 0 BallotT.zero BallotT.zero ChangeT.zero ViewT.zero),true),_,_,rfl,rfl,by simp[cY,pr,aE hp1,h10,h25,h29,h39,h53,h64,h73,MsgT.zero,RecT.zero, *],ht1⟩;refine sr λ_ J31=>P2 ?_
 refine aq ?_ ?_<;>intro h29;refine nx J31 (CY (aV ?_))
 exact aF
  (aS (aS (aS (aS (aS (bJ rfl (by simp[fa, *]) SB))))))
  (λ_ s=>s)
  (tl11 (():Unit) trivial)
 refine nx J31 (CN (af (PS ?_)));refine aq ?_ ?_<;>intro h31;refine PS ?_;refine ax ?_
 exact aF
  (aS (aS (aS (aS (aS (bJ rfl (by simp[fa, *]) SB))))))
  (λ_ s=>s)
  (tl11 (():Unit) trivial)
 refine PS ?_;refine ax ?_
 exact aF
  (aS (aS (aS (aS (aS (bJ rfl (by simp[fa, *]) SB))))))
  (λ_ s=>s)
  (tl11 (():Unit) trivial)
 refine sr λ_ J32=>P2 ?_
 refine aq ?_ ?_<;>intro h10;refine nx J32 (CY (aV ?_))
 exact aF
  (aS (aS (aS (aS (aS (bJ rfl (by simp[eF, *]) SB))))))
  (λ_ s=>s)
  (tl5 (():Unit) trivial)
 refine nx J32 (CN (sr λ_ J33=>P2 ?_));refine aq ?_ ?_<;>intro h10;refine nx J33 (CY (aV ?_))
 exact aF
  (aS (aS (aS (aS (aS (bJ rfl (by simp[eF, *]) SB))))))
  (λ_ s=>s)
  (tl5 (():Unit) trivial)
 refine nx J33 (CN (af (PS ?_)));refine aq ?_ ?_<;>intro h13;refine PS ?_;refine ax ?_
 exact aF
  (aS (aS (aS (aS (aS (bJ rfl (by simp[eF, *]) SB))))))
  (λ_ s=>s)
  (tl5 (():Unit) trivial)
 refine PS ?_;refine ax ?_
 exact aF
  (aS (aS (aS (aS (aS (bJ rfl (by simp[eF, *]) SB))))))
  (λ_ s=>s)
  (tl5 (():Unit) trivial)
theorem BN(rb:Nat)(v:Value)(bs:List UInt8):
 DT 107 #[(.pointer (some ⟨rb,0,none⟩))] (IsB v bs) [ak rb [v] 219] (oK 219 iS (λmb:RecT×Bool=> .tuple #[.agg (ints mb.1.flat).toArray, .bool mb.2]) dE v bs rb):=by
 refine BD 65 Tryz.func107 rfl rfl rfl λw0 F hF=>sr λ_ J1=>XZ JL (ints RecT.zero.flat) λb2=>?_
 refine PS ?_;refine nx J1 (sr λ_ J2=>PS ?_);refine CP jL (c8 rb v bs (6)) (SM [1]) (λ_ d _=>(hF).more d) (λcP HP hP=>?_) (λvR HR hR=>?_);obtain⟨vP,rfl,rfl,hpP⟩:=hP;refine aA (WK [0] (aU ?_));exact⟨_,rfl,rfl,by simp[dE,eF,fa,ca hpP, *]⟩;obtain⟨a1,r1,v1,rfl,rfl,hp1,ht1⟩:=hR;have hf1:=ht1 _ hF;refine tp (mI RecT.zero (RecT.mk a1 0 RowT.zero 0 BallotT.zero ChangeT.zero ViewT.zero) [(0,[Value.int .i64 a1])] en fi (g:=RecT.sg)) ?_;refine XZ JL (ints RecT.zero.flat) λb4=>?_
 refine SW 0 fW br ?_;refine nx J2 (aa λ_ J3=>sr λ_ J4=>FA 0 en aR ?_);refine LT 0 Y3 (.int .i64 (a1)) ?_ (hc:=by exact kX _ rfl);refine nx J4 (av (sr λ_ J5=>PS ?_));refine aq ?_ ?_<;>intro h11;refine PS ?_;refine nx J5 (CY (sr λ_ J6=>PS ?_));refine CP KT (u7 rb v1 r1) (SM [1]) (λ_ d _=>(hf1).more d) (λcP HP hP=>?_) (λvR HR hR=>?_);obtain⟨vP,rfl,rfl,hpP⟩:=hP;refine aA (aQ (aA (WK [0] (aU ?_))));exact⟨_,rfl,rfl,by simp[dE,eF,fa,aE hp1,ca hpP,h11, *]⟩;obtain⟨a2,r2,v2,rfl,rfl,hp2,ht2⟩:=hR;have hf2:=ht2 _ hf1;refine FA 2 en bg ?_;refine SP 1 bg am br RecT.wp_row ?_;refine nx J6 (aa λ_ J7=>D1 1 mixed ?_);refine LY 0 en fW br ?_;refine FD 1 2 en bg ?_;refine ta 2 rfl (aP (vs:=ints a2.flat) rfl ec rfl bg rfl (λ_ h=>h.2.1) (am a2) (tf (RecT.mk a1 0 a2 0 BallotT.zero ChangeT.zero ViewT.zero) 0 rfl (by decide) (whole (am a2)))) ?_;refine AL 3 ?_;refine CE KH (kl a2 (BG hp2)) ID ?_;refine EN (AL 4 ?_);refine SW 2 fW br ?_;refine EN (PD 5 ?_);refine DN (ae J7 (aj (aK (ag (RT 2 [0] en fW (br _) ?_)))));exact⟨((RecT.mk a1 0 a2 0 BallotT.zero ChangeT.zero ViewT.zero),(fF a2)),_,_,rfl,rfl,by simp[dE,eF,fa,pr,aE hp1,aE hp2,h11,MsgT.zero,RecT.zero, *],(ht1.trans ht2)⟩;refine PS ?_;refine nx J5 (CN (sr λ_ J8=>PS ?_));refine aq ?_ ?_<;>intro h20;refine PS ?_;refine nx J8 (CY (sr λ_ J9=>PS ?_))
 refine CP jL (c8 rb v1 r1 (5)) (SM [1]) (λ_ d _=>(hf1).more d) (λcP HP hP=>?_) (λvR HR hR=>?_);obtain⟨vP,rfl,rfl,hpP⟩:=hP;refine aA (aQ (aA (WK [0] (aU ?_))));exact⟨_,rfl,rfl,by simp[dE,eF,fa,aE hp1,ca hpP,h11,h20, *]⟩;obtain⟨a2,r2,v2,rfl,rfl,hp2,ht2⟩:=hR;have hf2:=ht2 _ hf1;refine FA 1 en aR ?_;refine SS 1 aR (br _) (RecT.set_whose _ rfl _) ?_;refine nx J9 (sr λ_ J10=>PS ?_);refine CP KT (u7 rb v2 r2) ID (λ_ d _=>(hf2).more d) (λcP HP hP=>?_) (λvR HR hR=>?_);obtain⟨vP,rfl,rfl,hpP⟩:=hP;refine aA (aQ (aA (WK [0] (aU ?_))));exact⟨_,rfl,rfl,by simp[dE,eF,fa,aE hp1,aE hp2,ca hpP,h11,h20, *]⟩;obtain⟨a3,r3,v3,rfl,rfl,hp3,ht3⟩:=hR;have hf3:=ht3 _ hf2;refine FA 2 en bg ?_;refine SP 1 bg am br RecT.wp_row ?_;refine nx J10 (aa λ_ J11=>D1 1 mixed ?_);refine LY 0 en fW br ?_;refine FD 1 2 en bg ?_;refine ta 2 rfl (aP (vs:=ints a3.flat) rfl ec rfl bg rfl (λ_ h=>h.2.1) (am a3) (tf (RecT.mk a1 a2 a3 0 BallotT.zero ChangeT.zero ViewT.zero) 0 rfl (by decide) (whole (am a3)))) ?_;refine AL 3 ?_;refine CE KH (kl a3 (BG hp3)) ID ?_;refine EN (AL 4 ?_);refine SW 2 fW br ?_;refine EN (PD 5 ?_);refine DN (ae J11 (aj (aK (ag (RT 2 [0] en fW (br _) ?_)))));exact⟨((RecT.mk a1 a2 a3 0 BallotT.zero ChangeT.zero ViewT.zero),(fF a3)),_,_,rfl,rfl,by simp[dE,eF,fa,pr,aE hp1,aE hp2,aE hp3,h11,h20,MsgT.zero,RecT.zero, *],(ht1.trans (ht2.trans ht3))⟩;refine PS ?_
 refine nx J8 (CN (sr λ_ J12=>PS ?_));refine aq ?_ ?_<;>intro h32;refine PS ?_;refine nx J12 (CY (af (PS ?_)));refine CP jL (c8 rb v1 r1 (5)) (SM [1]) (λ_ d _=>(hf1).more d) (λcP HP hP=>?_) (λvR HR hR=>?_);obtain⟨vP,rfl,rfl,hpP⟩:=hP;refine aQ (aA (WK [0] (aU ?_)));exact⟨_,rfl,rfl,by simp[dE,eF,fa,aE hp1,ca hpP,h11,h20,h32, *]⟩;obtain⟨a2,r2,v2,rfl,rfl,hp2,ht2⟩:=hR;have hf2:=ht2 _ hf1;refine FA 1 en aR ?_;refine SS 1 aR (br _) (RecT.set_whose _ rfl _) ?_;refine ax (ai (ae J3 (sr λ_ J13=>LW 1 en fW br ?_)));refine SW 2 fW br ?_;refine PS ?_;refine nx J13 (aj (RT 2 [0] en fW (br _) ?_));exact⟨((RecT.mk a1 a2 RowT.zero 0 BallotT.zero ChangeT.zero ViewT.zero),true),_,_,rfl,rfl,by simp[dE,eF,fa,pr,aE hp1,aE hp2,h11,h20,h32,MsgT.zero,RecT.zero, *],(ht1.trans ht2)⟩;refine PS ?_;refine nx J12 (CN (sr λ_ J14=>PS ?_));refine aq ?_ ?_<;>intro h37;refine PS ?_;refine nx J14 (CY (sr λ_ J15=>PS ?_));refine CP qW (jK rb v1 r1) (SM [1]) (λ_ d _=>(hf1).more d) (λcP HP hP=>?_) (λvR HR hR=>?_);obtain⟨vP,rfl,rfl,hpP⟩:=hP;refine aA (aQ (aA (WK [0] (aU ?_))));exact⟨_,rfl,rfl,by simp[dE,eF,fa,aE hp1,ca hpP,h11,h20,h32,h37, *]⟩;obtain⟨a2,r2,v2,rfl,rfl,hp2,ht2⟩:=hR;have hf2:=ht2 _ hf1;refine FA 176 en aR ?_;refine SS 1 aR (br _) (RecT.set_epoch _ rfl _) ?_;refine nx J15 (af (PS ?_))
 refine CP Ay (jY rb v2 r2) ID (λ_ d _=>(hf2).more d) (λcP HP hP=>?_) (λvR HR hR=>?_);obtain⟨vP,rfl,rfl,hpP⟩:=hP;refine aQ (aA (WK [0] (aU ?_)));exact⟨_,rfl,rfl,by simp[dE,eF,fa,aE hp1,aE hp2,ca hpP,h11,h20,h32,h37, *]⟩;obtain⟨a3,r3,v3,rfl,rfl,hp3,ht3⟩:=hR;have hf3:=ht3 _ hf2;refine FA 177 en cH ?_;refine SP 1 cH au br RecT.wp_ballot ?_;refine ax (ai (ae J3 (sr λ_ J16=>LW 1 en fW br ?_)));refine SW 2 fW br ?_;refine PS ?_;refine nx J16 (aj (RT 2 [0] en fW (br _) ?_));exact⟨((RecT.mk a1 0 RowT.zero a2 a3 ChangeT.zero ViewT.zero),true),_,_,rfl,rfl,by simp[dE,eF,fa,pr,aE hp1,aE hp2,aE hp3,h11,h20,h32,h37,MsgT.zero,RecT.zero, *],(ht1.trans (ht2.trans ht3))⟩;refine PS ?_;refine nx J14 (CN (sr λ_ J17=>PS ?_));refine aq ?_ ?_<;>intro h45;refine PS ?_;refine nx J17 (CY (sr λ_ J18=>PS ?_));refine CP qW (jK rb v1 r1) (SM [1]) (λ_ d _=>(hf1).more d) (λcP HP hP=>?_) (λvR HR hR=>?_);obtain⟨vP,rfl,rfl,hpP⟩:=hP;refine aA (aQ (aA (WK [0] (aU ?_))));exact⟨_,rfl,rfl,by simp[dE,eF,fa,aE hp1,ca hpP,h11,h20,h32,h37,h45, *]⟩;obtain⟨a2,r2,v2,rfl,rfl,hp2,ht2⟩:=hR;have hf2:=ht2 _ hf1;refine FA 176 en aR ?_;refine SS 1 aR (br _) (RecT.set_epoch _ rfl _) ?_;refine nx J18 (sr λ_ J19=>PS ?_);refine CP Ay (jY rb v2 r2) ID (λ_ d _=>(hf2).more d) (λcP HP hP=>?_) (λvR HR hR=>?_);obtain⟨vP,rfl,rfl,hpP⟩:=hP;refine aA (aQ (aA (WK [0] (aU ?_))))
 exact⟨_,rfl,rfl,by simp[dE,eF,fa,aE hp1,aE hp2,ca hpP,h11,h20,h32,h37,h45, *]⟩;obtain⟨a3,r3,v3,rfl,rfl,hp3,ht3⟩:=hR;have hf3:=ht3 _ hf2;refine FA 177 en cH ?_;refine SP 1 cH au br RecT.wp_ballot ?_;refine nx J19 (af (PS ?_));refine CP KS (pC rb v3 r3) ID (λ_ d _=>(hf3).more d) (λcP HP hP=>?_) (λvR HR hR=>?_);obtain⟨vP,rfl,rfl,hpP⟩:=hP;refine aQ (aA (WK [0] (aU ?_)));exact⟨_,rfl,rfl,by simp[dE,eF,fa,aE hp1,aE hp2,aE hp3,ca hpP,h11,h20,h32,h37,h45, *]⟩;obtain⟨a4,r4,v4,rfl,rfl,hp4,ht4⟩:=hR;have hf4:=ht4 _ hf3;refine FA 179 en fT ?_;refine SP 1 fT aN br RecT.wp_change ?_;refine ax (ai (ae J3 (sr λ_ J20=>LW 1 en fW br ?_)));refine SW 2 fW br ?_;refine PS ?_;refine nx J20 (aj (RT 2 [0] en fW (br _) ?_));exact⟨((RecT.mk a1 0 RowT.zero a2 a3 a4 ViewT.zero),true),_,_,rfl,rfl,by simp[dE,eF,fa,pr,aE hp1,aE hp2,aE hp3,aE hp4,h11,h20,h32,h37,h45,MsgT.zero,RecT.zero, *],(ht1.trans (ht2.trans (ht3.trans ht4)))⟩;refine PS ?_;refine nx J17 (CN (sr λ_ J21=>PS ?_));refine aq ?_ ?_<;>intro h56;refine PS ?_;refine nx J21 (CY (sr λ_ J22=>PS ?_));refine CP KR (sK rb v1 r1) (SM [1]) (λ_ d _=>(hf1).more d) (λcP HP hP=>?_) (λvR HR hR=>?_);obtain⟨vP,rfl,rfl,hpP⟩:=hP;refine aA (aQ (aA (WK [0] (aU ?_))));exact⟨_,rfl,rfl,by simp[dE,eF,fa,aE hp1,ca hpP,h11,h20,h32,h37,h45,h56, *]⟩;obtain⟨a2,r2,v2,rfl,rfl,hp2,ht2⟩:=hR;have hf2:=ht2 _ hf1
 refine FA 182 en bm ?_;refine SP 1 bm ap br RecT.wp_view ?_;refine nx J22 (aa λ_ J23=>D1 1 mixed ?_);refine LY 0 en fW br ?_;refine FD 1 182 en bm ?_;refine ta 2 rfl (aP (vs:=ints a2.flat) rfl eO rfl bm rfl (λ_ h=>h.2.1) (ap a2) (R6 (RecT.mk a1 0 RowT.zero 0 BallotT.zero ChangeT.zero a2) 0 rfl (by decide) (whole (ap a2)))) ?_;refine AL 3 ?_;refine CE KQ (nA a2 (tA hp2)) ID ?_;refine EN (AL 4 ?_);refine SW 2 fW br ?_;refine EN (PD 5 ?_);refine DN (ae J23 (aj (aK (ag (RT 2 [0] en fW (br _) ?_)))));exact⟨((RecT.mk a1 0 RowT.zero 0 BallotT.zero ChangeT.zero a2),(kJ a2)),_,_,rfl,rfl,by simp[dE,eF,fa,pr,aE hp1,aE hp2,h11,h20,h32,h37,h45,h56,MsgT.zero,RecT.zero, *],(ht1.trans ht2)⟩;refine PS ?_;refine nx J21 (CN (aV (ai (ae J3 (sr λ_ J24=>LW 0 en fW br ?_)))));refine SW 2 fW br ?_;refine PS ?_;refine nx J24 (aj (RT 2 [1] en fW (br _) ?_));exact⟨((RecT.mk a1 0 RowT.zero 0 BallotT.zero ChangeT.zero ViewT.zero),true),_,_,rfl,rfl,by simp[dE,eF,fa,pr,aE hp1,h11,h20,h32,h37,h45,h56,MsgT.zero,RecT.zero, *],ht1⟩
theorem F9(rb mb gb:Nat)(v:Value)(bs:List UInt8)(m0:MsgT)(g0:Bool):
 DT 119 #[(.pointer (some ⟨rb,0,none⟩)),(.pointer (some ⟨mb,0,none⟩)),(.pointer (some ⟨gb,0,none⟩))] (IsB v bs) [ak rb [v] 219,ak mb (ints m0.flat) 163,ak gb [(.bool (g0))] 4] (wI (λ_ H=>∃x' r a,H=ak rb [x'] 219::[ak mb (ints a.1.flat) 163,ak gb [.bool a.2] 4]∧Tail v bs x' r∧cY bs=some (a,r)) (λc H=>c=iS∧∃(x':Value) (_:Unit),H=ak rb [x'] 219::[ak mb (ints m0.flat) 163,ak gb [.bool g0] 4]∧cY bs=none)):=by
 refine BD 9 Tryz.func119 rfl rfl rfl λw0 F hF=>af (PS ?_)
 refine CP Qh (BO rb v bs) ID (λ_ d _=>(hF).more d) (λcP HP hP=>?_) (λvR HR hR=>?_);obtain⟨vP,rfl,rfl,hpP⟩:=hP;exact WK [0,0,0] (aU ⟨rfl,_,(),rfl,hpP⟩);obtain⟨a1,r1,v1,rfl,rfl,hp1,ht1⟩:=hR;refine P3 ?_;refine SW 1 cp aJ ?_;refine S0 2 lK ?_;exact ax (WK [0,0,0] (bC rfl ⟨_,_,_,rfl,ht1,hp1⟩))
theorem EL(x:Value)(bs:List UInt8):
 DT 81 #[x] (IsB x bs) [] (RI (.tuple #[.agg (ints (js bs).1.flat).toArray, .int .i64 (js bs).2]) []):=by
 refine Leg.Does.body (vs:=[x]) (n:=18) Tryz.func81 rfl rfl rfl (λw0 F hF=>?_);refine sr λ_ J1=>?_
 refine rr (ab rfl) rfl rfl rfl mZ (λb2=>?_);change TL _ _ _ _ _ _ _ _ _ [ak b2 (ints MsgT.zero.flat) 163];refine qn ?_;refine nx J1 ?_;clear J1;refine sr λ_ J2=>?_
 refine rr (ab rfl) rfl rfl rfl mZ (λb4=>?_);change TL _ _ _ _ _ _ _ _ _ [ak b4 (ints MsgT.zero.flat) 163,ak b2 (ints MsgT.zero.flat) 163];refine nx J2 ?_;clear J2;refine sr λ_ J3=>?_
 refine rr (ab rfl) rfl rfl rfl z4 (λb5=>?_);refine bF (i:=0) (ab rfl) rfl rfl rfl rfl rfl lK rfl rfl (lb rfl) rfl rfl ?_;refine nx J3 ?_;clear J3;refine sr λ_ J4=>?_
 refine mv ?_;refine tp (Sh rfl rfl) ?_;refine lG (ab rfl) rfl rfl rfl NV rfl (An (bs:=bs) (C:=[ak b4 (ints MsgT.zero.flat) 163,ak b5 [(.bool false)] 4]) (caps:=[(.pointer (some ⟨b4,0,none⟩)),(.pointer (some ⟨b5,0,none⟩))]) (A:=λa:MsgT×Bool=>[ak b4 (ints a.1.flat) 163,ak b5 [.bool a.2] 4]) (G:=λ_:Unit=>[ak b4 (ints MsgT.zero.flat) 163,ak b5 [(.bool false)] 4]) (φ:=λa r=>cY bs=some (a,r)) (ψ:=λ_=>cY bs=none) (λ_ h=>h) (λ_ _ h d=>h.more d) Qi (λrb=>F9 rb b4 b5 x bs MsgT.zero false)) (λ_ s=>aD [1,0] rfl s) (λ_ d _=>(hF).more d) (λvR HR hR=>?_);rcases hR with⟨r,⟨m,g⟩,rfl,rfl,hs⟩| ⟨_,rfl,rfl,hs⟩
 refine aq (λh9=>?_) (λh9=>?_);refine qn ?_;refine nx J4 ?_;clear J4;refine aa λ_ J5=>?_
 refine sr λ_ J6=>?_
 refine mv ?_;refine tp (nq (r:=false) rfl rfl rfl) ?_;refine mv ?_;refine tq (ic (v:=(.bool (g))) rfl Y4 rfl rfl (fj 1 rfl rfl) rfl) ?_;refine bh (λh13=>?_) (λh13=>?_);refine tq (nq (r:=false) rfl rfl rfl) ?_;refine tp (zQ rfl rfl rfl) ?_;refine nx J6 ?_;clear J6;refine HJ rfl ?_;refine aV ?_;refine ae J5 ?_;clear J5;refine sr λ_ J7=>?_
 refine tp (aP (vs:=ints m.flat) rfl bj rfl cp rfl (fj 0 rfl rfl) (aJ m) (whole (aJ m))) ?_;refine bT (vs:=ints m.flat) (i:=2) (ab rfl) rfl rfl rfl rfl rfl (by rw[(aJ m)];exact cp) (bw _) rfl rfl (by have h0:=(aJ MsgT.zero);have h1:=(aJ m);omega) (cC ((aJ MsgT.zero).trans (aJ m).symm)) rfl ?_;refine qn ?_;refine nx J7 ?_;clear J7;refine aj ?_;refine my (H':=[]) rfl rfl rfl bj rfl cp (fj 2 rfl rfl) (aJ m) (λ_ s=>an [] rfl s) ?_;exact⟨by simp[js, *],rfl⟩;refine tq (nq (r:=true) rfl rfl rfl) ?_;refine tp (zQ rfl rfl rfl) ?_;refine nx J6 ?_;clear J6;refine od rfl ?_;refine sr λ_ J8=>?_
 refine tp (kA (cells:=(ints MsgT.zero.flat).toArray) rfl rfl (by as_aux_lemma=>kernel_rfl)) ?_;refine bT (vs:=ints MsgT.zero.flat) (i:=2) (ab rfl) rfl rfl rfl rfl rfl (by rw[(aJ MsgT.zero)];exact cp) (bw _) rfl rfl (by have h0:=(aJ MsgT.zero);have h1:=(aJ MsgT.zero);omega) (cC ((aJ MsgT.zero).trans (aJ MsgT.zero).symm)) rfl ?_;refine qn ?_;refine nx J8 ?_;clear J8;refine aj ?_;refine ag ?_;clear J5;refine my (H':=[]) rfl rfl rfl bj rfl cp (fj 2 rfl rfl) (aJ MsgT.zero) (λ_ s=>an [] rfl s) ?_;exact⟨by simp[js, *],rfl⟩;refine qn ?_;refine nx J4 ?_;clear J4;refine aa λ_ J9=>?_
 refine sr λ_ J10=>?_
 refine mv ?_;refine tp (nq (r:=true) rfl rfl rfl) ?_;refine mv ?_;refine rq (b:=true) rfl rfl rfl rfl (lb rfl) ?_;refine rq (b:=true) rfl rfl rfl rfl (lb rfl) ?_;refine tp (zQ rfl rfl rfl) ?_;refine nx J10 ?_;clear J10;refine od rfl ?_;refine sr λ_ J11=>?_
 refine tp (kA (cells:=(ints MsgT.zero.flat).toArray) rfl rfl (by as_aux_lemma=>kernel_rfl)) ?_;refine bT (vs:=ints MsgT.zero.flat) (i:=2) (ab rfl) rfl rfl rfl rfl rfl (by rw[(aJ MsgT.zero)];exact cp) (bw _) rfl rfl (by have h0:=(aJ MsgT.zero);have h1:=(aJ MsgT.zero);omega) (cC ((aJ MsgT.zero).trans (aJ MsgT.zero).symm)) rfl ?_;refine qn ?_;refine nx J11 ?_;clear J11;refine aj ?_;refine ag ?_;clear J9;refine my (H':=[]) rfl rfl rfl bj rfl cp (fj 2 rfl rfl) (aJ MsgT.zero) (λ_ s=>an [] rfl s) ?_;exact⟨by simp[js, *],rfl⟩;refine qn ?_;refine nx J4 ?_;clear J4;refine aa λ_ J12=>?_
 refine sr λ_ J13=>?_
 refine mv ?_;refine tp (nq (r:=true) rfl rfl rfl) ?_;refine mv ?_;refine rq (b:=true) rfl rfl rfl rfl (lb rfl) ?_;refine rq (b:=true) rfl rfl rfl rfl (lb rfl) ?_;refine tp (zQ rfl rfl rfl) ?_;refine nx J13 ?_;clear J13;refine od rfl ?_;refine sr λ_ J14=>?_
 refine tp (kA (cells:=(ints MsgT.zero.flat).toArray) rfl rfl (by as_aux_lemma=>kernel_rfl)) ?_;refine bT (vs:=ints MsgT.zero.flat) (i:=2) (ab rfl) rfl rfl rfl rfl rfl (by rw[(aJ MsgT.zero)];exact cp) (bw _) rfl rfl (by have h0:=(aJ MsgT.zero);have h1:=(aJ MsgT.zero);omega) (cC ((aJ MsgT.zero).trans (aJ MsgT.zero).symm)) rfl ?_;refine qn ?_;refine nx J14 ?_;clear J14;refine aj ?_;refine ag ?_;clear J12;refine my (H':=[]) rfl rfl rfl bj rfl cp (fj 2 rfl rfl) (aJ MsgT.zero) (λ_ s=>an [] rfl s) ?_;exact⟨by simp[js, *],rfl⟩
theorem Iv(rb mb gb:Nat)(v:Value)(bs:List UInt8)(m0:RecT)(g0:Bool):
 DT 106 #[(.pointer (some ⟨rb,0,none⟩)),(.pointer (some ⟨mb,0,none⟩)),(.pointer (some ⟨gb,0,none⟩))] (IsB v bs) [ak rb [v] 219,ak mb (ints m0.flat) 146,ak gb [(.bool (g0))] 4] (wI (λ_ H=>∃x' r a,H=ak rb [x'] 219::[ak mb (ints a.1.flat) 146,ak gb [.bool a.2] 4]∧Tail v bs x' r∧dE bs=some (a,r)) (λc H=>c=iS∧∃(x':Value) (_:Unit),H=ak rb [x'] 219::[ak mb (ints m0.flat) 146,ak gb [.bool g0] 4]∧dE bs=none)):=by
 refine BD 9 Tryz.func106 rfl rfl rfl λw0 F hF=>af (PS ?_)
 refine CP Qn (BN rb v bs) ID (λ_ d _=>(hF).more d) (λcP HP hP=>?_) (λvR HR hR=>?_);obtain⟨vP,rfl,rfl,hpP⟩:=hP;exact WK [0,0,0] (aU ⟨rfl,_,(),rfl,hpP⟩);obtain⟨a1,r1,v1,rfl,rfl,hp1,ht1⟩:=hR;refine P3 ?_;refine SW 1 fW br ?_;refine S0 2 lK ?_;exact ax (WK [0,0,0] (bC rfl ⟨_,_,_,rfl,ht1,hp1⟩))
theorem wy(x:Value)(bs:List UInt8):
 DT 68 #[x] (IsB x bs) [] (RI (.tuple #[.agg (ints (fO bs).1.flat).toArray, .int .i64 (fO bs).2]) []):=by
 refine Leg.Does.body (vs:=[x]) (n:=18) Tryz.func68 rfl rfl rfl (λw0 F hF=>?_);refine sr λ_ J1=>?_
 refine rr (ab rfl) rfl rfl rfl JL (λb2=>?_);change TL _ _ _ _ _ _ _ _ _ [ak b2 (ints RecT.zero.flat) 146];refine qn ?_;refine nx J1 ?_;clear J1;refine sr λ_ J2=>?_
 refine rr (ab rfl) rfl rfl rfl JL (λb4=>?_);change TL _ _ _ _ _ _ _ _ _ [ak b4 (ints RecT.zero.flat) 146,ak b2 (ints RecT.zero.flat) 146];refine nx J2 ?_;clear J2;refine sr λ_ J3=>?_
 refine rr (ab rfl) rfl rfl rfl z4 (λb5=>?_);refine bF (i:=0) (ab rfl) rfl rfl rfl rfl rfl lK rfl rfl (lb rfl) rfl rfl ?_;refine nx J3 ?_;clear J3;refine sr λ_ J4=>?_
 refine mv ?_;refine tp (Sh rfl rfl) ?_;refine lG (ab rfl) rfl rfl rfl NV rfl (An (bs:=bs) (C:=[ak b4 (ints RecT.zero.flat) 146,ak b5 [(.bool false)] 4]) (caps:=[(.pointer (some ⟨b4,0,none⟩)),(.pointer (some ⟨b5,0,none⟩))]) (A:=λa:RecT×Bool=>[ak b4 (ints a.1.flat) 146,ak b5 [.bool a.2] 4]) (G:=λ_:Unit=>[ak b4 (ints RecT.zero.flat) 146,ak b5 [(.bool false)] 4]) (φ:=λa r=>dE bs=some (a,r)) (ψ:=λ_=>dE bs=none) (λ_ h=>h) (λ_ _ h d=>h.more d) Qo (λrb=>Iv rb b4 b5 x bs RecT.zero false)) (λ_ s=>aD [1,0] rfl s) (λ_ d _=>(hF).more d) (λvR HR hR=>?_);rcases hR with⟨r,⟨m,g⟩,rfl,rfl,hs⟩| ⟨_,rfl,rfl,hs⟩
 refine aq (λh9=>?_) (λh9=>?_);refine qn ?_;refine nx J4 ?_;clear J4;refine aa λ_ J5=>?_
 refine sr λ_ J6=>?_
 refine mv ?_;refine tp (nq (r:=false) rfl rfl rfl) ?_;refine mv ?_;refine tq (ic (v:=(.bool (g))) rfl Y4 rfl rfl (fj 1 rfl rfl) rfl) ?_;refine bh (λh13=>?_) (λh13=>?_);refine tq (nq (r:=false) rfl rfl rfl) ?_;refine tp (zQ rfl rfl rfl) ?_;refine nx J6 ?_;clear J6;refine HJ rfl ?_;refine aV ?_;refine ae J5 ?_;clear J5;refine sr λ_ J7=>?_
 refine tp (aP (vs:=ints m.flat) rfl en rfl fW rfl (fj 0 rfl rfl) (br m) (whole (br m))) ?_;refine bT (vs:=ints m.flat) (i:=2) (ab rfl) rfl rfl rfl rfl rfl (by rw[(br m)];exact fW) (bw _) rfl rfl (by have h0:=(br RecT.zero);have h1:=(br m);omega) (cC ((br RecT.zero).trans (br m).symm)) rfl ?_;refine qn ?_;refine nx J7 ?_;clear J7;refine aj ?_;refine my (H':=[]) rfl rfl rfl en rfl fW (fj 2 rfl rfl) (br m) (λ_ s=>an [] rfl s) ?_;exact⟨by simp[fO, *],rfl⟩;refine tq (nq (r:=true) rfl rfl rfl) ?_;refine tp (zQ rfl rfl rfl) ?_;refine nx J6 ?_;clear J6;refine od rfl ?_;refine sr λ_ J8=>?_
 refine tp (kA (cells:=(ints RecT.zero.flat).toArray) rfl rfl (by as_aux_lemma=>kernel_rfl)) ?_;refine bT (vs:=ints RecT.zero.flat) (i:=2) (ab rfl) rfl rfl rfl rfl rfl (by rw[(br RecT.zero)];exact fW) (bw _) rfl rfl (by have h0:=(br RecT.zero);have h1:=(br RecT.zero);omega) (cC ((br RecT.zero).trans (br RecT.zero).symm)) rfl ?_;refine qn ?_;refine nx J8 ?_;clear J8;refine aj ?_;refine ag ?_;clear J5;refine my (H':=[]) rfl rfl rfl en rfl fW (fj 2 rfl rfl) (br RecT.zero) (λ_ s=>an [] rfl s) ?_;exact⟨by simp[fO, *],rfl⟩;refine qn ?_;refine nx J4 ?_;clear J4;refine aa λ_ J9=>?_
 refine sr λ_ J10=>?_
 refine mv ?_;refine tp (nq (r:=true) rfl rfl rfl) ?_;refine mv ?_;refine rq (b:=true) rfl rfl rfl rfl (lb rfl) ?_;refine rq (b:=true) rfl rfl rfl rfl (lb rfl) ?_;refine tp (zQ rfl rfl rfl) ?_;refine nx J10 ?_;clear J10;refine od rfl ?_;refine sr λ_ J11=>?_
 refine tp (kA (cells:=(ints RecT.zero.flat).toArray) rfl rfl (by as_aux_lemma=>kernel_rfl)) ?_;refine bT (vs:=ints RecT.zero.flat) (i:=2) (ab rfl) rfl rfl rfl rfl rfl (by rw[(br RecT.zero)];exact fW) (bw _) rfl rfl (by have h0:=(br RecT.zero);have h1:=(br RecT.zero);omega) (cC ((br RecT.zero).trans (br RecT.zero).symm)) rfl ?_;refine qn ?_;refine nx J11 ?_;clear J11;refine aj ?_;refine ag ?_;clear J9;refine my (H':=[]) rfl rfl rfl en rfl fW (fj 2 rfl rfl) (br RecT.zero) (λ_ s=>an [] rfl s) ?_;exact⟨by simp[fO, *],rfl⟩;refine qn ?_;refine nx J4 ?_;clear J4;refine aa λ_ J12=>?_
 refine sr λ_ J13=>?_
 refine mv ?_;refine tp (nq (r:=true) rfl rfl rfl) ?_;refine mv ?_;refine rq (b:=true) rfl rfl rfl rfl (lb rfl) ?_;refine rq (b:=true) rfl rfl rfl rfl (lb rfl) ?_;refine tp (zQ rfl rfl rfl) ?_;refine nx J13 ?_;clear J13;refine od rfl ?_;refine sr λ_ J14=>?_
 refine tp (kA (cells:=(ints RecT.zero.flat).toArray) rfl rfl (by as_aux_lemma=>kernel_rfl)) ?_;refine bT (vs:=ints RecT.zero.flat) (i:=2) (ab rfl) rfl rfl rfl rfl rfl (by rw[(br RecT.zero)];exact fW) (bw _) rfl rfl (by have h0:=(br RecT.zero);have h1:=(br RecT.zero);omega) (cC ((br RecT.zero).trans (br RecT.zero).symm)) rfl ?_;refine qn ?_;refine nx J14 ?_;clear J14;refine aj ?_;refine ag ?_;clear J12;refine my (H':=[]) rfl rfl rfl en rfl fW (fj 2 rfl rfl) (br RecT.zero) (λ_ s=>an [] rfl s) ?_;exact⟨by simp[fO, *],rfl⟩
open Dsk Wal
theorem uE(b c s r:Nat)(us:List Value)(ls:List (List UInt8)):
 DT 77 #[(.pointer (some ⟨b,0,none⟩))] T0 [ak b [(.chan (some c))] 184,ek c 8 (us) (s) (r),eJ (us) (ls) 5] (RI (.int .i64 ((ls.length:Nat):Int)) [ak b [(.chan (some c))] 184,ek c 8 (us) (s) (r),eJ (us) (ls) 5]):=by
 refine BD 8 Tryz.func77 rfl rfl rfl λw0 F hF=>sr λ_ J1=>PS ?_
 refine nx J1 (sr λ_ J2=>zH (p:=us.length=ls.length) (λw m=>(rU 2 rfl rfl m).1) (λhul=>P2 ?_));refine FA 0 Fe vG ?_;refine LA 0 wF ?_;refine tp (PV.lenChan 1 rfl wF rfl rfl rfl) ?_;refine PS ?_;refine nx J2 (aj (WK [0,0,0] (aw rfl rfl ?_)));exact⟨by rw[hul],rfl⟩
theorem kU(b:Nat)(ls:List (List UInt8)):DT 77 #[.pointer (some ⟨b,0,none⟩)] T0 [iK 184 5 b ls] (RI (.int .i64 ((ls.length:Nat):Int)) [iK 184 5 b ls]):=
 Leg.Does.pack (B:=[]) λq=>Leg.Does.fold (uE b q.1 q.2.2.1 q.2.2.2 q.2.1 ls) λe H hp=>by
  cases e with
  |returned v=>
   obtain⟨rfl,rfl⟩:=hp;exact⟨_,λ_ s=>bv (p:=λq:Nat×List Value×Nat×Nat=>[ak b [.chan (some q.1)] 184,ek q.1 8 q.2.1 q.2.2.1 q.2.2.2,eJ q.2.1 ls 5]) (H:=[]) q s,rfl,rfl⟩
  |panicked c=>exact hp.elim
  |outgrown=>exact hp.elim
theorem Cu(b c s r:Nat)(us:List Value)(ls:List (List UInt8))(x:Value)(bs:List UInt8)(hb:bs.length≤1000000):
 DT 116 #[(.pointer (some ⟨b,0,none⟩)),x] (IsW x bs) [ak b [(.chan (some c))] 184,ek c 8 (us) (s) (r),eJ (us) (ls) 5] (dA (λv H=>(ls.length<8∧v= .bool true∧∃u,H=[ak b [(.chan (some c))] 184,ek c 8 (us++[u]) (s+1) r,eJ us ls 5,cw u bs 5])∨(¬ls.length<8∧v= .bool false∧H=[ak b [(.chan (some c))] 184,ek c 8 (us) (s) (r),eJ (us) (ls) 5]))):=by
 refine Leg.Does.body (vs:=[(.pointer (some ⟨b,0,none⟩)),x]) (n:=15) Tryz.func116 rfl rfl rfl (λw0 F hF=>?_);refine sr λ_ J1=>?_
 refine qn ?_;refine nx J1 ?_;refine aa λ_ J2=>?_
 refine sr λ_ J3=>?_
 refine zH (p:=us.length=ls.length) (λw m=>(rU 2 rfl rfl m).1) (λhul=>?_);refine mv ?_;refine tp (gD rfl rfl) ?_;refine tp (bb (r:=0) rfl Fe rfl vG rfl rfl) ?_;refine tp (ic (v:=(.chan (some c))) rfl wF rfl rfl (fj 0 rfl rfl) rfl) ?_;refine nx J3 ?_;refine af ?_;refine Fg (ab rfl) rfl rfl rfl gA l5 (λv9=>?_);change TL _ _ _ _ _ _ _ _ _ [cw v9 ([]) 5,ak b [(.chan (some c))] 184,ek c 8 (us) (s) (r),eJ (us) (ls) 5];refine mv ?_;refine cF (k:=0) (news:=dL (bs)) (nn':=(bs:List UInt8).length) (xs':=dL (bs)) (ab rfl) rfl rfl rfl gA yA rfl rfl rfl rfl rfl rfl (λ_ _=>hF.src (λ_ h=>fm h)) (e6 _) (by simp only[maxLen,ao];omega) (by simp only[ao];omega) (by simp) (bG _) (λv11 ov11=>?_);change TL _ _ _ _ _ _ _ _ _ [cw v11 (bs) 5,ak b [(.chan (some c))] 184,ek c 8 (us) (s) (r),eJ (us) (ls) 5];refine nx J2 ?_;refine aa λ_ J4=>?_
 refine zJ ?_;change TX _ _ _ _ _ _ [0,1,2] _ _ _
 by_cases hroom:us.length<8
 refine TX.sendRoom 2 rfl (ab rfl) rfl rfl rfl z53 rfl rfl rfl rfl hroom ?_;change TX _ _ _ _ _ _ _ _ _ [cw v11 (bs) 5,ak b [(.chan (some c))] 184,ek c 8 (us++[v11]) (s+1) (r),eJ (us) (ls) 5];refine uH rfl (ab rfl) rfl rfl (ix (vs:=[(.int .i64 0),(.bool false)]) rfl rfl rfl) ?_;refine uH rfl (ab rfl) rfl rfl (QL rfl rfl rfl) ?_;refine Nl ?_;refine ae J4 ?_;refine av ?_;refine od rfl ?_;refine sr λ_ J5=>?_
 refine qn ?_;refine nx J5 ?_;refine aj ?_;refine aK ?_;refine aF (dH _) (λ_ s=>an [1,1,1,0] rfl s) ?_;refine aw rfl rfl ?_;exact Or.inl ⟨by omega,rfl,_,rfl⟩;refine TX.sendFull 2 rfl (ab rfl) rfl rfl rfl z53 rfl rfl rfl rfl (by omega) ?_;refine uH rfl (ab rfl) rfl rfl (ix (vs:=[(.int .i64 (-1)),(.bool false)]) rfl rfl rfl) ?_;refine uH rfl (ab rfl) rfl rfl (QL rfl rfl rfl) ?_;refine Nl ?_;refine ae J4 ?_;refine av ?_;refine HJ rfl ?_;refine sr λ_ J6=>?_
 refine qn ?_;refine nx J6 ?_;refine aj ?_;refine aK ?_;refine aF (dH _) (λ_ s=>an [1,1,1] rfl s) ?_;refine aw rfl rfl ?_;exact Or.inr ⟨by omega,rfl,rfl⟩
theorem wl(b:Nat)(ls:List (List UInt8))(x:Value)(bs:List UInt8)(hb:bs.length≤1000000):DT 116 #[.pointer (some ⟨b,0,none⟩),x] (IsW x bs) [iK 184 5 b ls] (RI (.bool (decide (ls.length<8))) [iK 184 5 b (BQ ls bs)]):=
 Leg.Does.pack (B:=[]) λq=>Leg.Does.fold (Cu b q.1 q.2.2.1 q.2.2.2 q.2.1 ls x bs hb) λe H hp=>by
  cases e with
  |returned v=>
   unfold BQ;rcases hp with⟨h8,rfl,u,rfl⟩| ⟨h8,rfl,rfl⟩
   · refine⟨[iK 184 5 b (ls++[bs])],λ_ s=>?_,by rw[decide_eq_true h8],by rw[if_pos h8]⟩
     have s1:=By 3 rfl rfl s;have s2:=aD [2,2] rfl s1;have s3:=vw s2;exact bv (p:=λq:Nat×List Value×Nat×Nat=>[ak b [.chan (some q.1)] 184,ek q.1 8 q.2.1 q.2.2.1 q.2.2.2,eJ q.2.1 (ls++[bs]) 5]) (H:=[]) (q.1,q.2.1++[u],q.2.2.1+1,q.2.2.2) (aD [1,1,0] rfl s3)
   · exact⟨[iK 184 5 b ls],λ_ s=>bv (p:=λq:Nat×List Value×Nat×Nat=>[ak b [.chan (some q.1)] 184,ek q.1 8 q.2.1 q.2.2.1 q.2.2.2,eJ q.2.1 ls 5]) (H:=[]) q s,by rw[decide_eq_false h8],by rw[if_neg h8]⟩
  |panicked c=>exact hp.elim
  |outgrown=>exact hp.elim
theorem zD(b c s r:Nat)(us:List Value)(ls:List (List UInt8)):
 DT 117 #[(.pointer (some ⟨b,0,none⟩))] T0 [ak b [(.chan (some c))] 184,ek c 8 (us) (s) (r),eJ (us) (ls) 5] (dA (λv H=>(ls=[]∧v= .tuple #[.slice none 0 0, .bool false]∧H=[ak b [(.chan (some c))] 184,ek c 8 [] s r,eJ [] ls 5])∨(∃u us' f ls',ls=f::ls'∧v= .tuple #[u, .bool true]∧H=[ak b [(.chan (some c))] 184,ek c 8 us' s (r+1),eJ (u::us') (f::ls') 5]))):=by
 refine BD 14 Tryz.func117 rfl rfl rfl λw0 F hF=>sr λ_ J1=>P2 ?_
 refine nx J1 (sr λ_ J2=>zH (p:=us.length=ls.length) (λw m=>(rU 2 rfl rfl m).1) (λhul=>P2 ?_));refine FA 0 Fe vG ?_;refine LA 0 wF ?_;refine nx J2 (aa λ_ J3=>zJ ?_);rcases us with _| ⟨u,us⟩
 refine TX.recvNone 1 rfl (ab rfl) rfl rfl rfl z53 rfl rfl rfl (uH rfl (ab rfl) rfl rfl (ix (vs:=[(.int .i64 (-1)),(.bool false),(.slice none 0 0)]) rfl rfl rfl) (uH rfl (ab rfl) rfl rfl (QL rfl rfl rfl) (Nl (ae J3 (av (CN (sr λ_ J4=>P2 ?_)))))));exact nx J4 (aj (aK (WK [0,0,0] (iu rfl rfl rfl (Or.inl ⟨List.eq_nil_of_length_eq_zero hul.symm,rfl,rfl⟩)))));rcases ls with _| ⟨f,ls⟩
 · cases hul
 refine TX.recvBuf 1 rfl (ab rfl) rfl rfl rfl z53 rfl rfl rfl (uH rfl (ab rfl) rfl rfl (ix (vs:=[(.int .i64 0),(.bool true),u]) rfl rfl rfl) (uH rfl (ab rfl) rfl rfl (QL rfl rfl rfl) (Nl (ae J3 (av (CY (sr λ_ J5=>P2 ?_)))))));refine nx J5 (sr λ_ J6=>P3 ?_);exact nx J6 (aj (aK (WK [0,0,0] (iu rfl rfl rfl (Or.inr ⟨u,us,f,ls,rfl,rfl,rfl⟩)))))
theorem uD(b:Nat)(ls:List (List UInt8)):DT 117 #[.pointer (some ⟨b,0,none⟩)] T0 [iK 184 5 b ls] (dA (λv H=>(ls=[]∧v= .tuple #[.slice none 0 0, .bool false]∧H=[iK 184 5 b []])∨(∃u f ls',ls=f::ls'∧v= .tuple #[u, .bool true]∧H=[iK 184 5 b ls',hX u f 5]))):=
 Leg.Does.pack (B:=[]) λq=>Leg.Does.fold (zD b q.1 q.2.2.1 q.2.2.2 q.2.1 ls) λe H hp=>by
  cases e with
  |returned v=>
   rcases hp with⟨rfl,rfl,rfl⟩| ⟨u,us',f,ls',rfl,rfl,rfl⟩
   · exact⟨[iK 184 5 b []],λ_ s=>bv (p:=λq:Nat×List Value×Nat×Nat=>[ak b [.chan (some q.1)] 184,ek q.1 8 q.2.1 q.2.2.1 q.2.2.2,eJ q.2.1 [] 5]) (H:=[]) (q.1,[],q.2.2.1,q.2.2.2) s,Or.inl ⟨rfl,rfl,rfl⟩⟩
   · refine⟨[iK 184 5 b ls',hX u f 5],λ_ s=>?_,Or.inr ⟨u,f,ls',rfl,rfl,rfl⟩⟩
     have s1:=aD [2] rfl s;have s2:=Jy s1;exact bv (p:=λq:Nat×List Value×Nat×Nat=>[ak b [.chan (some q.1)] 184,ek q.1 8 q.2.1 q.2.2.1 q.2.2.2,eJ q.2.1 ls' 5]) (H:=[hX u f 5]) (q.1,us',q.2.2.1,q.2.2.2+1) (aD [2,2,1,0] rfl s2)
  |panicked c=>exact hp.elim
  |outgrown=>exact hp.elim
theorem Cv:
 DT 65 #[(.int .i64 8)] T0 [] (dA (λv H=>∃b c,v= .pointer (some ⟨b,0,none⟩)∧H=[ak b [(.chan (some c))] 184,ek c 8 [] 0 0])):=by
 refine BD 9 Tryz.func65 rfl rfl rfl λw0 F hF=>sr λ_ J1=>PS ?_
 refine nx J1 (sr λ_ J2=>PS ?_);refine tp (QK (v':=(.int .i64 8)) (zR rfl rfl rfl) rfl) ?_;refine tp (QK (v':=(.int .i64 8)) (PV.minI rfl rfl rfl) rfl) ?_;refine TL.makeChan (k:=8) (bytes:=24) (ab rfl) rfl rfl rfl wF (by kernel_rfl) rfl (by omega) (by omega) (λc6=>BV #[(.chan (some c6))] ?_);refine XB λb8=>?_
 refine PS ?_;exact nx J2 (aj (WK [0,0] (aw rfl rfl ⟨b8,c6,rfl,rfl⟩)))
theorem E6:DT 65 #[.int .i64 8] T0 [] (dA (λv H=>∃b,v= .pointer (some ⟨b,0,none⟩)∧H=[iK 184 5 b []])):=
 Leg.Does.fold Cv λe H hp=>by
  cases e with
  |returned v=>
   obtain⟨b,c,rfl,rfl⟩:=hp;exact⟨[iK 184 5 b []],λ_ s=>bv (p:=λq:Nat×List Value×Nat×Nat=>[ak b [.chan (some q.1)] 184,ek q.1 8 q.2.1 q.2.2.1 q.2.2.2,eJ q.2.1 [] 5]) (H:=[]) (c,[],0,0) (aD [1,1,0] rfl (A5 s)),b,rfl,rfl⟩
  |panicked c=>exact hp.elim
  |outgrown=>exact hp.elim
theorem pZ(w:Int):
 DT 115 #[(.int .i64 (w))] T0 [] (RI (.bool (gp w)) []):=by
 refine BD 9 Tryz.func115 rfl rfl rfl λw0 F hF=>sr λ_ J1=>PS ?_
 refine nx J1 (sr λ_ J2=>P2 ?_);refine aq ?_ ?_<;>intro h4
 iterate 5 refine PS ?_
 refine nx J2 (aj (WK [] (aw rfl rfl ?_)));exact⟨congrArg Value.bool (by unfold gp;simp only[decide_eq_decide];omega),rfl⟩;refine PS ?_;refine UF ?_;refine UF ?_;refine P2 ?_;refine nx J2 (aj (WK [] (aw rfl rfl ?_)));exact⟨congrArg Value.bool (by unfold gp;symm;exact decide_eq_false (by omega)),rfl⟩
theorem nz(n:Nat)(bs:List Nat)(from' to':Int):
 DT 76 #[(.pointer (some ⟨n,0,none⟩)),(.int .i64 (from')),(.int .i64 (to'))] T0 [ak n (fx bs) 135] (dA (λv H=>((dM from' to'=true∧v= .pointer (some ⟨(bs.getD (bB from' to') 0),0,none⟩))∨(dM from' to'=false∧v= .pointer none))∧H=[ak n (fx bs) 135])):=by
 refine BD 23 Tryz.func76 rfl rfl rfl λw0 F hF=>sr λ_ J1=>PS ?_
 refine nx J1 (aa λ_ J2=>sr λ_ J3=>PS ?_);refine CE NQ (pZ from') ID ?_;refine bh ?_ ?_<;>intro h8;have hf:0≤from'∧from'<5:=of_decide_eq_true h8
 refine PS ?_;refine P2 ?_;refine CE NQ (pZ to') ID ?_;refine bh ?_ ?_<;>intro h12;have ht:0≤to'∧to'<5:=of_decide_eq_true h12;refine PS ?_;refine PS ?_;refine nx J3 (CN (qx J2 (sr λ_ J4=>P4 ?_)));refine FA 0 Tryz.underlying135 Nr ?_;refine IX (((from').toNat)*5) Tryz.underlying133 Ns ?_;refine IX (((from').toNat)*5+(to').toNat) Tryz.underlying132 Kf ?_;refine LT 0 Cz (if bB from' to'%6=0 then .pointer none else .pointer (some ⟨(bs.getD (bB from' to') 0),0,none⟩)) ?_ (hc:=by exact KA bs (k:=bB from' to') (by unfold bB;omega));refine PS ?_;refine nx J4 (aj (WK [0] (aw rfl rfl ⟨?_,rfl⟩)))
 by_cases hd:from'=to'
 · rw[if_pos ((uO h8 h12).2 hd)]
   exact Or.inr ⟨by unfold dM;rw[decide_eq_true hd];simp,rfl⟩
 · rw[if_neg (λq=>hd ((uO h8 h12).1 q))]
   exact Or.inl ⟨by unfold dM;rw[h8,h12,decide_eq_false hd];rfl,rfl⟩
 refine PS ?_;refine PS ?_;refine nx J3 (CY (sr λ_ J5=>PS ?_));refine nx J5 (aj (ag (WK [0] (aw rfl rfl ?_))));exact⟨Or.inr ⟨by unfold dM;rw[h12];simp,rfl⟩,rfl⟩;refine PS ?_;refine PS ?_
 iterate 3 refine UT ?_
 refine PS ?_;refine nx J3 (CY (sr λ_ J6=>PS ?_));refine nx J6 (aj (ag (WK [0] (aw rfl rfl ?_))));exact⟨Or.inr ⟨by unfold dM;rw[h8];simp,rfl⟩,rfl⟩
def uh(W:List (List (List UInt8)))(f t:Int):Bool:=dM f t&&decide ((W.getD (bB f t) []).length<8)
theorem zo(n:Nat)(bs:List Nat)(W:List (List (List UInt8)))(from' to':Int)(x:Value)(by':List UInt8)(hb:by'.length≤1000000)(hW:W.length=25):
 DT 212 #[(.pointer (some ⟨n,0,none⟩)),(.int .i64 (from')),(.int .i64 (to')),x] (IsW x by') [ak n (fx bs) 135,gh 184 5 bs W] (RI (.bool (uh W from' to')) [ak n (fx bs) 135,gh 184 5 bs (pG W from' to' by')]):=by
 refine BD 21 Tryz.func212 rfl rfl rfl λw0 F hF=>sr λ_ J1=>PS ?_
 refine nx J1 (sr λ_ J2=>P3 ?_);refine CR F3 (nz n bs from' to') ID λvR HR hR=>?_
 obtain⟨hw,rfl⟩:=hR;rcases hw with⟨hv,rfl⟩| ⟨hv,rfl⟩
 refine PS ?_;refine nx J2 (sr λ_ J3=>PS ?_);refine tp (jU rfl Cz rfl rfl) ?_;refine P3 ?_;refine cz (H':=[iK 184 5 (bs.getD (bB from' to') 0) (W.getD (bB from' to') []),gS 184 5 bs W (bB from' to'),ak n (fx bs) 135]) (λ_ s=>oN hv (aD [1] rfl s)) (CF KX (wl (bs.getD (bB from' to') 0) (W.getD (bB from' to') []) x by' hb) ID (λ_ d _=>QR hF d) ?_);refine P2 ?_;refine nx J3 (aj (aF (H':=[ak n (fx bs) 135,gh 184 5 bs (pG W from' to' by')]) (dH _) (λ_ s=>by unfold pG;rw[if_pos hv];exact aD [1,0] rfl (uN hv hW (aD [0,0,0] rfl s))) (aw rfl rfl ?_)));exact⟨by unfold uh;rw[hv];rfl,rfl⟩;refine PS ?_;refine nx J2 (sr λ_ J4=>PS ?_);refine tp (jD rfl Cz rfl rfl) ?_;refine PS ?_
 iterate 3 refine UF ?_
 refine P2 ?_;refine nx J4 (aj (WK [0,0] (aw rfl rfl ?_)));exact⟨by unfold uh;rw[hv];rfl,by unfold pG;rw[hv];rfl⟩
theorem B1(n:Nat)(W:List (List (List UInt8)))(from' to':Int)(x:Value)(by':List UInt8)(hb:by'.length≤1000000)(hW:W.length=25):DT 212 #[.pointer (some ⟨n,0,none⟩), .int .i64 from', .int .i64 to',x] (IsW x by') [eR 135 184 5 n W] (RI (.bool (uh W from' to')) [eR 135 184 5 n (pG W from' to' by')]):=
 Leg.Does.pack (B:=[]) λbs=>Leg.Does.fold (zo n bs W from' to' x by' hb hW) λe H hp=>by
  cases e with
  |returned v=>
   obtain⟨rfl,rfl⟩:=hp;exact⟨_,λ_ s=>bv (p:=λbs:List Nat=>[ak n (fx bs) 135,gh 184 5 bs (pG W from' to' by')]) (H:=[]) bs s,rfl,rfl⟩
  |panicked c=>exact hp.elim
  |outgrown=>exact hp.elim
def jR(f t:Int)(bs:List UInt8):List UInt8:=qa ([b8 f,b8 t]++bs)
theorem Gq(from' to':Int)(x:Value)(by':List UInt8)(hb:by'.length≤100000):
 DT 218 #[(.int .i64 (from')),(.int .i64 (to')),x] (IsW x by') [] (dA (λv H=>∃u,v=u∧H=[cw u (jR from' to' by') 5])):=by
 refine BD 23 Tryz.func218 rfl rfl rfl λw0 F hF=>sr λ_ J1=>PS ?_
 refine nx J1 (sr λ_ J2=>PS ?_);refine tp (dI rfl gA rfl hF.len) ?_;refine AD ?_;refine TL.makeB (0) (2+by'.length) (ab rfl) rfl rfl rfl gA yA rfl rfl rfl (by omega) (by omega) (by omega) (λb11=>cz (H':=[cw (.slice (some ⟨b11,0,none⟩) 0 (2+by'.length)) ([]) 5]) (λ_ s=>pz 0 rfl rfl (by omega) (by simp only[maxLen];omega) (by simp[dL]) rfl s) (PS ?_));refine nx J2 (sr λ_ J3=>P2 ?_);refine tp (eh (r:=(((b8 from').toNat:Nat):Int)) rfl Y3 Y5 rfl (w3 _)) ?_;refine PS ?_;refine tp (eh (r:=(((b8 to').toNat:Nat):Int)) rfl Y3 Y5 rfl (w3 _)) ?_;refine aT (cells:=#[(.int .u8 ((((b8 from').toNat:Nat):Int))),(.int .u8 ((((b8 to').toNat:Nat):Int)))]) (ab rfl) rfl rfl rfl gA yA rfl rfl rfl (by as_aux_lemma=>kernel_rfl) (λb17=>cF (k:=1) (news:=dL ([(b8 from'),(b8 to')])) (nn':=([(b8 from'),(b8 to')]:List UInt8).length) (xs':=dL ([(b8 from'),(b8 to')])) (ab rfl) rfl rfl rfl gA yA rfl rfl rfl rfl rfl rfl (λ_ _=>jB rfl (RO 0) rfl) (e6 [(b8 from'),(b8 to')]) (by simp only[maxLen,ao,ah];omega) (by simp only[ao,ah];omega) (by simp<;>omega) (bG _) (λv18 ov18=>PS ?_));refine nx J3 (sr λ_ J4=>P2 ?_)
 refine cF (k:=1) (news:=dL (by')) (nn':=([(b8 from'),(b8 to')]++by':List UInt8).length) (xs':=dL ([(b8 from'),(b8 to')]++by')) (ab rfl) rfl rfl rfl gA yA rfl rfl rfl rfl rfl rfl (λ_ _=>hF.src (λ_ h=>fm h)) (e6 _) (by simp only[maxLen,ac,ah,ao];omega) (by simp only[ac,ah,ao];omega) (by simp<;>omega) (iO _ _).symm (λv21 ov21=>CQ NA (vH v21 ([(b8 from'),(b8 to')]++by') (by simp only[ac,ah,ao];omega)) ID (λg d s=>L6 (wX 1 rfl rfl g d s)) λvR HR hR=>?_);have hR:=hR;subst hR;refine PS ?_;exact nx J4 (aj (WK [0] (aw rfl rfl ⟨_,rfl,rfl⟩)))
theorem sW(f t:Int)(bs:List UInt8):(jR f t bs).length=bs.length+6:=by
 unfold jR;rw[lr];simp only[ac,ah,ao];omega
theorem zu(n:Nat)(W:List (List (List UInt8)))(from' to':Int)(x:Value)(by':List UInt8)(hb:by'.length≤3000)(hW:W.length=25):
 DT 216 #[(.pointer (some ⟨n,0,none⟩)),(.int .i64 (from')),(.int .i64 (to')),x] (IsW x by') [eR 135 184 5 n (W)] (RI (.bool (uh W from' to')) [eR 135 184 5 n (pG W from' to' (jR from' to' by'))]):=by
 refine BD 24 Tryz.func216 rfl rfl rfl λw0 F hF=>?_
 have hfl:(jR from' to' by').length≤1000000:=by rw[sW];omega
 refine sr λ_ J1=>PS ?_
 refine nx J1 (aa λ_ J2=>sr λ_ J3=>PS ?_);refine tp (iW rfl Md rfl rfl) ?_;refine P2 ?_;refine tq (dI rfl gA rfl hF.len) ?_;refine PS ?_;refine aq ?_ ?_<;>intro h14
 · exact absurd h14 (by omega)
 refine PS ?_;refine nx J3 (CN (qx J2 (sr λ_ J4=>?_)))
 iterate 6 refine PS ?_
 refine CQ PF (Gq from' to' x by' (by omega)) ID (λ_ d _=>QR hF d) λvR HR hR=>?_
 obtain⟨_,rfl,rfl⟩:=hR;revert vR;intro uf;refine CF PJ (B1 n W from' to' uf (jR from' to' by') hfl hW) (SM [1]) (λg d s=>L6 (wX 0 rfl rfl g d s)) ?_;refine PS ?_;exact nx J4 (aj (WK [0] (aw rfl rfl ⟨rfl,rfl⟩)))
theorem zv(from' to':Int)(x:Value)(by':List UInt8)(h0:0<by'.length)(hb:by'.length≤100000):
 DT 118 #[(.int .i64 (from')),(.int .i64 (to')),x] (IsW x (jR from' to' by')) [] (dA (λv H=>∃u,v= .tuple #[u, .bool true]∧H=[hX u by' 5])):=by
 refine BD 40 Tryz.func118 rfl rfl rfl λw0 F hF=>?_
 have hfl:(jR from' to' by').length≤1000000000:=by rw[sW];omega
 refine sr λ_ J1=>P2 ?_
 refine nx J1 (sr λ_ J2=>PS ?_);refine CQ NI (Ae x (jR from' to' by') hfl) ID (λ_ d _=>QR hF d) λvR HR hR=>?_
 rcases hR with⟨ht',_,_⟩| ⟨t,u,ht',rfl,rfl⟩
 · exact absurd ht' (by unfold jR;rw[sE];simp)
 obtain rfl:t=([b8 from',b8 to']++by'):=by unfold jR at ht';rw[sE]at ht';exact(bK ht').symm
 refine iI 0 rfl rfl (by simp) (λg cap hv hcap=>?_);have hv2:u= .slice (some ⟨g,0,none⟩) (by'.length+2) cap:=hv;refine P4 ?_;refine PS ?_;refine nx J2 (aa λ_ J3=>sr λ_ J4=>PS ?_);refine PS ?_;refine P2 ?_;refine tq (dI rfl gA rfl (by rw[hv2];exact⟨_,_,rfl⟩)) ?_;refine PS ?_;refine aq ?_ ?_<;>intro h20
 · exact absurd h20 (by omega)
 refine P3 ?_;refine tq (bO (r:=0) hv2 rfl gA l5 rfl rfl (by omega) (by omega) rfl) ?_;refine tq (de (v:=(.int .u8 ((((b8 from').toNat:Nat):Int)))) rfl Y5 rfl rfl (fQ 0 rfl hv rfl) (sB (l:=([b8 from',b8 to']++by')) (j:=0) (by simp))) ?_;refine PS ?_;refine tq (eh (r:=(((b8 from').toNat:Nat):Int)) rfl Y3 Y5 rfl (w3 _)) ?_;refine PS ?_;refine aq ?_ ?_<;>intro h28
 · exact absurd rfl h28
 refine P3 ?_;refine tq (bO (r:=1) hv2 rfl gA l5 rfl rfl (by omega) (by omega) rfl) ?_;refine tq (de (v:=(.int .u8 ((((b8 to').toNat:Nat):Int)))) rfl Y5 rfl rfl (fQ 0 rfl hv rfl) (sB (l:=([b8 from',b8 to']++by')) (j:=1) (by simp))) ?_;refine PS ?_;refine tq (eh (r:=(((b8 to').toNat:Nat):Int)) rfl Y3 Y5 rfl (w3 _)) ?_;refine PS ?_;refine aq ?_ ?_<;>intro h36
 · exact absurd rfl h36
 refine PS ?_;refine nx J4 (CN (qx J3 (sr λ_ J5=>PS ?_)));refine tp (QK (PV.sliceL (a:=some ⟨g,0,none⟩) (len:=by'.length+2) (cap:=cap) (lo:=2) rfl gA l5 (by rw[←hv2];rfl) rfl rfl (by omega)) (congrArg (λq=>ku q 2 (by'.length+2)) hv2.symm)) ?_;refine P2 ?_;exact nx J5 (aj (aF (H':=[hX (ku u 2 (by'.length+2)) by' 5]) (dH _) (λ_ s=>xA 0 rfl rfl hv (by omega) (by simp) (by simp;omega) (by simp) s) (iu rfl rfl rfl ⟨_,rfl,rfl⟩)))
theorem yq(n:Nat)(bs:List Nat)(W:List (List (List UInt8)))(from' to':Int)(by':List UInt8)(ls:List (List UInt8))(hv:dM from' to'=true)(hW:W.length=25)(hk:W.getD (bB from' to') []=jR from' to' by'::ls)(h0:0<by'.length)(hb:by'.length≤100000):
 DT 80 #[(.pointer (some ⟨n,0,none⟩)),(.int .i64 (from')),(.int .i64 (to'))] T0 [ak n (fx bs) 135,gh 184 5 bs (W)] (dA (λv H=>∃u,v= .tuple #[u, .bool true]∧H=[ak n (fx bs) 135,gh 184 5 bs (W.set (bB from' to') ls),hX u by' 5])):=by
 refine BD 32 Tryz.func80 rfl rfl rfl λw0 F hF=>sr λ_ J1=>P2 ?_
 refine nx J1 (aa λ_ J2=>sr λ_ J3=>PS ?_);refine tp (iW rfl Md rfl rfl) ?_;refine nx J3 (CN (qx J2 (sr λ_ J4=>P3 ?_)));refine CR F3 (nz n bs from' to') ID λvR HR hR=>?_
 obtain⟨hw,rfl⟩:=hR;obtain⟨_,rfl⟩:dM from' to'=true∧vR= .pointer (some ⟨(bs.getD (bB from' to') 0),0,none⟩):=hw.resolve_right (λq=>by rw[hv]at q;cases q.1)
 refine PS ?_;refine nx J4 (aa λ_ J5=>sr λ_ J6=>PS ?_);refine tp (iW rfl Cz rfl rfl) ?_;refine nx J6 (CN (qx J5 (sr λ_ J7=>PS ?_)));refine cz (H':=[iK 184 5 (bs.getD (bB from' to') 0) (W.getD (bB from' to') []),gS 184 5 bs W (bB from' to'),ak n (fx bs) 135]) (λ_ s=>oN hv (aD [1] rfl s)) (CR NP (uD (bs.getD (bB from' to') 0) (W.getD (bB from' to') [])) ID λvR HR hR=>?_);rcases hR with⟨he,_,_⟩| ⟨u,f,ls',he,rfl,rfl⟩
 · rw[he]at hk;cases hk
 rw[hk]at he;obtain⟨rfl,rfl⟩:=List.cons.inj he;refine P4 ?_;refine PS ?_;refine nx J7 (aa λ_ J8=>sr λ_ J9=>PS ?_);refine PS ?_;refine nx J9 (CN (qx J8 (sr λ_ J10=>P3 ?_)));refine CQ Qj (zv from' to' u by' h0 hb) ID (λg d s=>L6 (B9 1 rfl rfl g d s)) λvR HR hR=>?_
 obtain⟨uv,rfl,rfl⟩:=hR;refine P4 ?_;exact nx J10 (aj (aF (H':=[ak n (fx bs) 135,gh 184 5 bs (W.set (bB from' to') ls),hX uv by' 5]) (dH _) (λ_ s=>aD [1,0] rfl (uN hv hW (an [1,2,2,0] rfl s))) (iu rfl rfl rfl ⟨_,rfl,rfl⟩)))
theorem se(n:Nat)(W:List (List (List UInt8)))(from' to':Int)(by':List UInt8)(ls:List (List UInt8))(hv:dM from' to'=true)(hW:W.length=25)(hk:W.getD (bB from' to') []=jR from' to' by'::ls)(h0:0<by'.length)(hb:by'.length≤100000):DT 80 #[.pointer (some ⟨n,0,none⟩), .int .i64 from', .int .i64 to'] T0 [eR 135 184 5 n W] (dA (λv H=>∃u,v= .tuple #[u, .bool true]∧H=[eR 135 184 5 n (W.set (bB from' to') ls),hX u by' 5])):=
 Leg.Does.pack (B:=[]) λbs=>Leg.Does.fold (yq n bs W from' to' by' ls hv hW hk h0 hb) λe H hp=>by
  cases e with
  |returned v=>
   obtain⟨u,rfl,rfl⟩:=hp;exact⟨[eR 135 184 5 n (W.set (bB from' to') ls),hX u by' 5],λ_ s=>bv (p:=λbs:List Nat=>[ak n (fx bs) 135,gh 184 5 bs (W.set (bB from' to') ls)]) (H:=[hX u by' 5]) bs s,u,rfl,rfl⟩
  |panicked c=>exact hp.elim
  |outgrown=>exact hp.elim
end Go.Proofs.YtfocodjhmkokpaaGreatDoor
end

section
namespace Leg
open Go Codec Api
section
variable {P:Program} {n:Nat} {D:List Deferred} {L:List (Nat×Value)} {S:World→Prop} {o:Oper}
end
def mj(bs:List Nat):List Value:=(List.range 25).map λq=>if q%6=0∨bs.length≤q then .pointer none else .pointer (some ⟨bs.getD q 0,0,none⟩)
theorem At(bs:List Nat):(mj bs).length=25:=by simp[mj]
theorem IE{bs:List Nat}{b:Nat}(h:bs.length<25)(hd: ¬bs.length%6=0):(mj bs).set bs.length (.pointer (some ⟨b,0,none⟩))=mj (bs++[b]):=by
 refine List.ext_getElem? λj=>?_
 by_cases hj:j=bs.length
 · subst hj
   rw[List.getElem?_set_self (by rw[At];exact h)];simp[mj,h,hd,List.getD_eq_getElem?_getD]
 · rw[List.getElem?_set_ne (λe=>hj e.symm)]
   simp only[mj,List.getElem?_map];cases hr:(List.range 25)[j]?with
   |none=>rfl
   |some q=>
    have hq:q=j:=by
     by_cases h25:j<25
     · simp[h25]at hr;exact hr.symm
     · simp[h25]at hr
    subst hq;simp only[Option.map_some,ac,ah,ao];congr 1
    by_cases hlt:q<bs.length
    · simp[show ¬bs.length≤q by omega,show ¬bs.length+1≤q by omega,List.getElem?_append_left hlt]
    · simp[show bs.length≤q by omega,show bs.length+1≤q by omega]
theorem FX{bs:List Nat}{b:Nat}(hd:bs.length%6=0):mj (bs++[b])=mj bs:=by
 unfold mj;refine ef λq hq=>?_
 rw[ac,eW]
 by_cases hq6:q%6=0
 · simp[hq6]
 · by_cases hlt:q<bs.length
   · simp[hq6,show ¬bs.length≤q by omega,show ¬bs.length+1≤q by omega,List.getElem?_append_left hlt]
   · have: ¬q=bs.length:=λe=>hq6 (by rw[e];exact hd)
     simp[show bs.length≤q by omega,show bs.length+1≤q by omega]
theorem IF{bs:List Nat}(h:bs.length=25):mj bs=fx bs:=by
 unfold mj fx;refine ef λq hq=>?_
 rw[ei]at hq;simp[show ¬bs.length≤q by omega]
def pT(T U:Nat)(bs:List Nat)(q:Nat):HP:=if q%6=0 then(λ_=>True)else iK T U (bs.getD q 0) []
def kL(T U:Nat)(bs:List Nat):HP:=bH ((List.range bs.length).map (pT T U bs))
theorem GN(T U:Nat){H:List HP}{h:Hl}(s:bH H h):bH (kL T U []::H) h:=⟨em,h,Fm h,(sj h).symm,trivial,s⟩
theorem GO(T U:Nat)(bs:List Nat)(b:Nat):(List.range bs.length).map (pT T U (bs++[b]))=(List.range bs.length).map (pT T U bs):=
 ef λq hq=>by
  rw[ei]at hq;unfold pT;rw[show(bs++[b]).getD q 0=bs.getD q 0 by simp[List.getElem?_append_left hq]]
theorem wk(T U:Nat)(bs:List Nat)(b:Nat){H:List HP}{h:Hl}(s:bH (pT T U (bs++[b]) bs.length::kL T U bs::H) h):bH (kL T U (bs++[b])::H) h:=by
 have e:(List.range (bs++[b]).length).map (pT T U (bs++[b]))=(List.range bs.length).map (pT T U bs)++[pT T U (bs++[b]) bs.length]:=by
  rw[ac,eW,dh,cJ,GO];rfl
 obtain⟨h1,h2,d,rfl,a,b'⟩:=s;have s2:bH ((pT T U (bs++[b]) bs.length::(List.range bs.length).map (pT T U bs))++H) (jn h1 h2):=⟨h1,h2,d,rfl,a,(ci _ _).2 b'⟩;have p:((pT T U (bs++[b]) bs.length::(List.range bs.length).map (pT T U bs))++H).Perm (((List.range bs.length).map (pT T U bs)++[pT T U (bs++[b]) bs.length])++H):=(List.perm_append_comm (l₁:=[pT T U (bs++[b]) bs.length])).append_right H;have s3:=eA p s2;rw[←e]at s3;exact(ci _ _).1 s3
theorem E5(T U:Nat)(bs:List Nat)(hd:bs.length%6=0){H:List HP}{h:Hl}(s:bH (kL T U bs::H) h):bH (kL T U (bs++[0])::H) h:=by
 refine wk T U bs 0 ⟨em,h,Fm h,(sj h).symm,?_,s⟩;unfold pT;rw[if_pos hd];trivial
theorem GP{T U:Nat}{bs:List Nat}(h:bs.length=25):kL T U bs=gh T U bs (List.replicate 25 []):=by
 unfold kL gh qd;rw[h];refine congrArg bH ?_;refine ef λq hq=>?_
 rw[ei]at hq;unfold pT su;rw[show(List.replicate 25 ([]:List (List UInt8))).getD q []=[]by rw[List.getD_eq_getElem?_getD,List.getElem?_replicate,if_pos hq];rfl]
end Leg
end

section
namespace Go.Proofs.YtfocodjhmkokpaaGreatDoor
open Go Leg Codec Api Dsk Wal
theorem LM{T U:Nat}{bs:List Nat}{b:Nat}(h: ¬bs.length%6=0):pT T U (bs++[b]) bs.length=iK T U b []:=by
 unfold pT;rw[if_neg h,List.getD_eq_getElem?_getD,List.getElem?_append_right (aH _),zU];rfl
theorem GQ{T U:Nat}{bs:List Nat}{b:Nat}(hl: ¬bs.length%6=0){H:List HP}{h:Hl}(s:bH (iK T U b []::kL T U bs::H) h):bH (kL T U (bs++[b])::H) h:=wk T U bs b (by rw[LM hl];exact s)
theorem D6:
 DT 41 #[] T0 [] (dA (λv H=>∃n,v= .pointer (some ⟨n,0,none⟩)∧H=[eR 135 184 5 n (List.replicate 25 [])])):=by
 refine Leg.Does.body (vs:=[]) (n:=26) Tryz.func41 rfl rfl rfl (λw0 F hF=>?_);refine sr λ_ J1=>?_
 refine qn ?_;refine nx J1 ?_;refine sr λ_ J2=>?_
 refine tp (kA (cells:=#[(.pointer none),(.pointer none),(.pointer none),(.pointer none),(.pointer none),(.pointer none),(.pointer none),(.pointer none),(.pointer none),(.pointer none),(.pointer none),(.pointer none),(.pointer none),(.pointer none),(.pointer none),(.pointer none),(.pointer none),(.pointer none),(.pointer none),(.pointer none),(.pointer none),(.pointer none),(.pointer none),(.pointer none),(.pointer none)]) rfl rfl (by as_aux_lemma=>kernel_rfl)) ?_;refine TL.box (ab rfl) rfl rfl rfl rfl (λb5=>?_);change TL _ _ _ _ _ _ _ _ _ [ak b5 [(.pointer none),(.pointer none),(.pointer none),(.pointer none),(.pointer none),(.pointer none),(.pointer none),(.pointer none),(.pointer none),(.pointer none),(.pointer none),(.pointer none),(.pointer none),(.pointer none),(.pointer none),(.pointer none),(.pointer none),(.pointer none),(.pointer none),(.pointer none),(.pointer none),(.pointer none),(.pointer none),(.pointer none),(.pointer none)] 135];refine qn ?_;refine nx J2 ?_;refine aa λ_ J3=>?_
 refine sr λ_ J4=>?_
 refine mv ?_;refine nx J4 ?_;refine av ?_
 refine bz (α:=(Nat)×(List Nat)) (λ⟨i,bs⟩=>i≤5∧bs.length=i*5) (λ⟨i,bs⟩=>[(0,(.pointer none)),(1,(.pointer (some ⟨b5,0,none⟩))),(6,(.int .i64 (((i:Nat):Int))))]) (λ⟨i,bs⟩=>[ak b5 (mj (bs)) 135,kL 184 5 (bs)]) (λ⟨i,bs⟩=>5-i) (0,[])
  ⟨aO _,rfl⟩ (aS (aS (bJ rfl (by congr 1) (O9 _))))
  (λ_ s=>aD [1,0] rfl (GN 184 5 s)) (λ⟨i,bs⟩ hinv=>?_)
 obtain⟨hi,hbs⟩:=hinv;refine sr λ_ J5=>?_
 refine tp (PV.lss rfl rfl rfl) ?_;refine aq (λh7=>?_) (λh7=>?_);refine nx J5 ?_;refine aa λ_ J6=>?_
 refine od rfl ?_;refine aV ?_;refine ae J6 ?_;refine aa λ_ J7=>?_
 refine av ?_;refine sr λ_ J8=>?_
 refine mv ?_;refine qn ?_;refine nx J8 ?_;refine sr λ_ J9=>?_
 refine mv ?_;refine nx J9 ?_;refine av ?_
 refine bz (α:=(Nat)×(List Nat)) (λ⟨j,bs2⟩=>j≤5∧bs2.length=i*5+j) (λ⟨j,bs2⟩=>[(0,(.pointer none)),(1,(.pointer (some ⟨b5,0,none⟩))),(2,(.int .i64 (((i:Nat):Int)))),(6,(.int .i64 (((i:Nat):Int)))),(9,(.int .i64 (((j:Nat):Int))))]) (λ⟨j,bs2⟩=>[ak b5 (mj (bs2)) 135,kL 184 5 (bs2)]) (λ⟨j,bs2⟩=>5-j) (0,bs)
  ⟨aO _,hbs⟩ (aS (aS (aS (aS (bJ rfl (by congr 1) (O9 _))))))
  (λ_ s=>s) (λ⟨j,bs2⟩ hinv=>?_)
 obtain⟨hj,hbl⟩:=hinv;refine sr λ_ J10=>?_
 refine tp (PV.lss rfl rfl rfl) ?_;refine aq (λh10=>?_) (λh10=>?_);refine nx J10 ?_;refine aa λ_ J11=>?_
 refine od rfl ?_;refine aV ?_;refine ae J11 ?_;refine aa λ_ J12=>?_
 refine av ?_;refine sr λ_ J13=>?_
 refine mv ?_;refine qn ?_;refine nx J13 ?_;refine sr λ_ J14=>?_
 refine mv ?_;refine mv ?_;refine tp (PV.neq rfl rfl rfl) ?_;refine aq (λh14=>?_) (λh14=>?_);refine nx J14 ?_;refine od rfl ?_;refine s8 (λw=>Frm F w∧True) dx rfl (λ_ s=>⟨fm s,trivial⟩) ?_;refine ta 0 rfl (kf rfl rfl) ?_;refine ta 1 rfl (kf rfl rfl) ?_;refine ta 2 rfl (kf rfl rfl) ?_;refine ta 4 rfl (gD rfl rfl) ?_;refine ta 5 rfl (bb (r:=0) rfl Tryz.underlying135 rfl Nr rfl rfl) ?_;refine ta 6 rfl (ox (r:=i*5) rfl Tryz.underlying133 Ns rfl rfl (by omega) (by omega) (by omega)) ?_;refine cZ [3] (by kernel_rfl) rfl ?_;refine aG rfl ?_ ?_;refine lG (A:=[]) (ab rfl) rfl rfl rfl Rx rfl (E6) (λ_ s=>s) (λ_ _ _=>trivial) (λvR HR hR=>?_);obtain⟨bx,rfl,rfl⟩:=hR;change TL _ _ _ _ _ _ _ _ _ [iK 184 5 bx [],ak b5 (mj (bs2)) 135,kL 184 5 (bs2)];refine ax ?_;refine wo (λ_ s=>⟨fm s,trivial⟩) ?_;refine ta 7 rfl (ox (r:=i*5+j) rfl Tryz.underlying132 Kf rfl rfl (by omega) (by omega) (by omega)) ?_;refine cZ [8] (by kernel_rfl) rfl ?_;refine aG rfl ?_ ?_;refine bF (i:=1) (H':=[iK 184 5 bx [],ak b5 (mj (bs2++[bx])) 135,kL 184 5 (bs2)]) (ab rfl) rfl rfl rfl rfl rfl Kf rfl rfl (by rw[At];omega) (by rw[show i*5+j=bs2.length by omega];exact IE (by omega) (by omega)) rfl ?_;refine ax ?_;refine wo (λ_ s=>⟨fm s,trivial⟩) ?_;refine TD.done (by kernel_rfl) ?_;refine ai ?_;refine ae J12 ?_;refine af ?_;refine tp (cN rfl rfl rfl (bY (by omega) (by omega))) ?_;refine mv ?_;refine ax ?_
 exact aM ((j+1,bs2++[bx]):(Nat)×(List Nat)) ⟨by omega,by rw[ac,eW];omega⟩ (by show 5- (j+1)<5-j;omega)
  (aS (aS (aS (aS (bJ rfl (by simp) (O9 _))))))
  (λ_ s=>show bH [ak b5 (mj (bs2++[bx])) 135,kL 184 5 (bs2++[bx])] _ from aD [1,0] rfl (GQ (by omega) (an [0,1,0] rfl s)))
 exact bM;exact bM;refine nx J14 ?_;refine HJ rfl ?_;refine aV ?_;refine ai ?_;refine ae J12 ?_;refine af ?_;refine tp (cN rfl rfl rfl (bY (by omega) (by omega))) ?_;refine mv ?_;refine ax ?_
 exact aM ((j+1,bs2++[0]):(Nat)×(List Nat)) ⟨by omega,by rw[ac,eW];omega⟩ (by show 5- (j+1)<5-j;omega)
  (aS (aS (aS (aS (bJ rfl (by simp) (O9 _))))))
  (λ_ s=>show bH [ak b5 (mj (bs2++[0])) 135,kL 184 5 (bs2++[0])] _ by rw[FX (by omega)];exact aD [1,0] rfl (E5 184 5 bs2 (by omega) (aD [1,0] rfl s)))
 refine nx J10 ?_;refine aa λ_ J15=>?_
 refine HJ rfl ?_;refine aX ?_;refine aC ?_;refine aC ?_;refine bq ?_;refine ai ?_;refine ae J7 ?_;refine af ?_;refine tp (cN rfl rfl rfl (bY (by omega) (by omega))) ?_;refine mv ?_;refine ax ?_
 exact aM ((i+1,bs2):(Nat)×(List Nat)) ⟨by omega,by omega⟩ (by show 5- (i+1)<5-i;omega)
  (aS (aS (bJ rfl (by simp) (O9 _))))
  (λ_ s=>s)
 refine nx J5 ?_;refine aa λ_ J16=>?_
 refine HJ rfl ?_;refine aX ?_;refine aC ?_;refine aC ?_;refine bq ?_;refine ae J3 ?_;refine sr λ_ J17=>?_
 refine mv ?_;refine qn ?_;refine nx J17 ?_;refine aj ?_;refine aF (H':=[eR 135 184 5 b5 (List.replicate 25 [])]) (dH _) (λ_ s=>bv (p:=λbs:List Nat=>[ak b5 (fx bs) 135,gh 184 5 bs (List.replicate 25 [])]) (H:=[]) bs (by rw[←IF (by omega),←GP (by omega)];exact s)) ?_;refine aw rfl rfl ?_;exact⟨b5,rfl,rfl⟩
end Go.Proofs.YtfocodjhmkokpaaGreatDoor
end

section
namespace Leg
open Go Codec Api
def eV(n:Nat)(D M P:Nat→Value):List Value:= .pointer (some ⟨n,0,none⟩)::((List.range 5).map D++((List.range 5).map M++(List.range 5).map P))
section
variable (n:Nat) (D M P:Nat→Value) {i:Nat}
theorem sY:(eV n D M P).length=16:=by simp[eV]
theorem ET:(eV n D M P)[0]?=some (.pointer (some ⟨n,0,none⟩)):=rfl
theorem EU(h:i<5):(eV n D M P)[1+i]?=some (D i):=by
 rw[mN,eV,List.getElem?_cons_succ,List.getElem?_append_left (by simpa using h)];simp[h]
theorem yR(h:i<5):(eV n D M P)[6+i]?=some (M i):=by
 rw[show 6+i=(5+i)+1 by omega,eV,List.getElem?_cons_succ,List.getElem?_append_right (by simp),List.getElem?_append_left (by simp;omega)];simp[h]
theorem QB(h:i<5):(eV n D M P)[11+i]?=some (P i):=by
 rw[show 11+i=(10+i)+1 by omega,eV,List.getElem?_cons_succ,List.getElem?_append_right (by simp;omega),List.getElem?_append_right (by simp;omega)];simp only[bQ,gv];rw[show 10+i-5-5=i by omega];simp[h]
end
def lJ{α:Type}(f:Nat→α)(i:Nat)(v:α):Nat→α:=λj=>if j=i then v else f j
theorem jF{α:Type}(f:Nat→α)(i:Nat)(v:α):lJ f i v i=v:=if_pos rfl
theorem nC{α:Type}(f:Nat→α){i j:Nat}(v:α)(h:j≠i):lJ f i v j=f j:=if_neg h
theorem B6{α:Type}(f:Nat→α){i k:Nat}(h:i<k)(v:α):((List.range k).map f).set i v=(List.range k).map (lJ f i v):=by
 refine List.ext_getElem? λj=>?_
 by_cases hj:j=i
 · subst hj
   rw[List.getElem?_set_self (by simpa using h)];simp[h,jF]
 · rw[List.getElem?_set_ne (λe=>hj e.symm)]
   by_cases hk:j<k
   · simp[hk,nC f v hj]
   · simp[hk]
section
variable (n:Nat) (D M P:Nat→Value) {i:Nat} (v:Value)
theorem Nb(h:i<5):(eV n D M P).set (1+i) v=eV n (lJ D i v) M P:=by
 rw[mN,eV,bZ,ry _ _ (by simpa using h),B6 D h];rfl
theorem wY(h:i<5):(eV n D M P).set (6+i) v=eV n D (lJ M i v) P:=by
 rw[show 6+i=(5+i)+1 by omega,eV,bZ,gT _ _ (by simp),ry _ _ (by simp;omega)];simp only[bQ,gv];rw[show 5+i-5=i by omega,B6 M h];rfl
theorem HF(h:i<5):(eV n D M P).set (11+i) v=eV n D M (lJ P i v):=by
 rw[show 11+i=(10+i)+1 by omega,eV,bZ,gT _ _ (by simp;omega),gT _ _ (by simp;omega)];simp only[bQ,gv];rw[show 10+i-5-5=i by omega,B6 P h];rfl
end
abbrev Pn(c i:Nat):Value:= .agg #[.pointer (some ⟨c,0,none⟩), .int .i64 ((i:Nat):Int)]
end Leg
namespace Go.Proofs.YtfocodjhmkokpaaGreatDoor
open Go Leg Codec Api Dsk Wal
section
variable {CT NT BT U c n d i:Nat} {D M P:Nat→Value} {W:List (List (List UInt8))} {recs:List (List UInt8)} {l:List SaidT} {H:List HP} {h:Hl}
end
end Go.Proofs.YtfocodjhmkokpaaGreatDoor
end
