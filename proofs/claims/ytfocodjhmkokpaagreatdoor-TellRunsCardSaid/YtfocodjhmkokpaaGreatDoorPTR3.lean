/-
  Joined texts:what a statement's proof reaches.
-/
import Derived.Test.YtfocodjhmkokpaaGreatDoorPTR2
set_option maxHeartbeats 8000000
set_option maxRecDepth 100000
set_option linter.unusedSimpArgs false
set_option linter.unusedVariables false
section
namespace Api
open Go Leg
theorem whole{cs:List Value}{n:Nat}(h:cs.length=n):(cs.drop 0).take n=cs:=by rw[aV,az (by omega)]
theorem cr{cs vs:List Value}(h:cs.length=vs.length):wr cs 0 vs=vs:=gd h
theorem kl{n:Nat}(v:Vector Int n){i:Nat}(h:i<n):(ints v.toList)[i]?=some (.int .i64 v[i]):=by simp[ints,h]
theorem yW{n:Nat}(v:Vector Int n){i:Nat}(h:i<n)(x:Int):(ints v.toList).set i (.int .i64 x)=ints (v.set i x h).toList:=by rw[rm];simp[ints,yO]
theorem vZ{α:Type}(f:α→List Int)(l:List α):ints (l.flatMap f)=(l.map λx=>ints (f x)).flatten:=by
 induction l with
 |nil=>rfl
 |cons x l ih=>rw[cS,ej,ih];rfl
theorem yV{α:Type}{m:Nat}{f:α→List Int}(hf: ∀x,(f x).length=m): ∀l:List α,SL (l.map λx=>ints (f x)) (List.replicate l.length m)
 | []=> .nil
 |x::l=> .cons (by rw[ints_length,hf]) (yV hf l)
theorem sE(m:Nat): ∀(n i:Nat),i≤n→((List.replicate n m).take i).sum=i*m:=λn i h=>by
 rw[List.take_replicate,Nat.min_eq_left h,List.sum_replicate_nat]
theorem kF{α:Type}{n m:Nat}{f:α→List Int}(hf: ∀x,(f x).length=m)(v:Vector α n){i k o:Nat}(j:Nat)(hi:i<n)(ho:o=i*m+j)(h:j+k≤m){r:List Value}(hr:((ints (f v[i])).drop j).take k=r):
 ((ints (v.toList.flatMap f)).drop o).take k=r:=by
 subst ho;rw[←hr,vZ];have hl:=(yV hf v.toList);exact hl.sub i j k (by simp[hi]) (by simp[hi]) (by simp only[aA];exact sE m n i (by omega)) h
theorem nQ{α:Type}{n m:Nat}{f:α→List Int}(hf: ∀x,(f x).length=m)(v:Vector α n){i o:Nat}(j:Nat)(hi:i<n)(ho:o=i*m+j)(h:j<m){r:Option Value}(hr:(ints (f v[i]))[j]?=r):
 (ints (v.toList.flatMap f))[o]?=r:=by
 subst ho;rw[←hr,vZ];have hl:=(yV hf v.toList);exact hl.at i j (by simp[hi]) (by simp[hi]) (by simp only[aA];exact sE m n i (by omega)) h
theorem uM{α:Type}{n:Nat}(v:Vector α n){i:Nat}(hi:i<n)(g:α→List Value)(y:α):(v.toList.map g).set i (g y)=(v.set i y hi).toList.map g:=by rw[rm,yO]
theorem ux{α:Type}{n m:Nat}{f:α→List Int}(hf: ∀x,(f x).length=m)(v:Vector α n){i o:Nat}(j:Nat){vs:List Value}{u':α}(hi:i<n)(ho:o=i*m+j)(h:j+vs.length≤m)(hw:wr (ints (f v[i])) j vs=ints (f u')):
 wr (ints (v.toList.flatMap f)) o vs=ints ((v.set i u' hi).toList.flatMap f):=by
 subst ho;rw[vZ,vZ,←uM v hi (λx=>ints (f x)) u'];have hl:=(yV hf v.toList);exact hl.putIn i j vs (by simp[hi]) (by simp[hi]) (by simp only[aA];exact sE m n i (by omega)) h hw
theorem Ic{α:Type}{n m:Nat}{f:α→List Int}(hf: ∀x,(f x).length=m)(v:Vector α n){i o:Nat}(j:Nat){x:Value}{u':α}(hi:i<n)(ho:o=i*m+j)(h:j<m)(hw:(ints (f v[i])).set j x=ints (f u')):
 (ints (v.toList.flatMap f)).set o x=ints ((v.set i u' hi).toList.flatMap f):=by
 subst ho;rw[vZ,vZ,←uM v hi (λx=>ints (f x)) u',←hw];have hl:=(yV hf v.toList);exact hl.set i j x (by simp[hi]) (by simp[hi]) (by simp only[aA];exact sE m n i (by omega)) h
theorem di(v:Vector Int 5):(ints v.toList).length=5:=by simp[ints]
theorem ee(v:Vector CellT 4):(ints (bR v.toList)).length=28:=by simp[ints_length,cT]
theorem lF{segs:List (List Value)}:kN segs []=some segs:=rfl
theorem e9{segs:List (List Value)}{i:Nat}{v s:List Value}{ps:List (Nat×List Value)}{res:List (List Value)}(hs:segs[i]?=some s)(hl:v.length=s.length)(h:kN (segs.set i v) ps=some res):kN segs ((i,v)::ps)=some res:=by
 simp only[kN,hs,if_pos hl,h]
theorem tA(v:Vector CellT 4):(bR v.toList).length=28:=by simp[cT]
theorem CellT.sl(m:CellT):SL [[Value.int .i64 m.inn],[Value.int .i64 m.out],ints m.given.toList] [1,1,5]:=(.cons rfl (.cons rfl (.cons (by simp[ints]) .nil)))
abbrev Dx:= @CellT.sl
abbrev CellT.sg(m:CellT):List (List Value):=[[Value.int .i64 m.inn],[Value.int .i64 m.out],ints m.given.toList]
theorem CellT.eq(m:CellT):ints m.flat=[[Value.int .i64 m.inn],[Value.int .i64 m.out],ints m.given.toList].flatten:=by simp[CellT.flat,ints]
abbrev qA:= @CellT.eq
theorem CellT.at_inn(m:CellT){o:Nat}(ho:o=0):(ints m.flat)[o]?=some (Value.int .i64 m.inn):=by subst ho;rw[qA];exact(Dx m).at 0 0 rfl rfl rfl (by decide)
abbrev sd:= @CellT.at_inn
theorem CellT.set_inn(m:CellT){o:Nat}(ho:o=0)(x:Int):(ints m.flat).set o (Value.int .i64 x)=ints ({m with inn:=x}:CellT).flat:=by subst ho;rw[qA,qA];exact(Dx m).set 0 0 _ rfl rfl rfl (by decide)
theorem CellT.at_out(m:CellT){o:Nat}(ho:o=1):(ints m.flat)[o]?=some (Value.int .i64 m.out):=by subst ho;rw[qA];exact(Dx m).at 1 0 rfl rfl rfl (by decide)
abbrev sc:= @CellT.at_out
theorem CellT.set_out(m:CellT){o:Nat}(ho:o=1)(x:Int):(ints m.flat).set o (Value.int .i64 x)=ints ({m with out:=x}:CellT).flat:=by subst ho;rw[qA,qA];exact(Dx m).set 1 0 _ rfl rfl rfl (by decide)
theorem CellT.pt_given(m:CellT){o:Nat}(j:Nat)(ho:o=2+j)(h:j<5){r:Option Value}(hr:(ints m.given.toList)[j]?=r):(ints m.flat)[o]?=r:=by subst ho;rw[←hr,qA];exact(Dx m).at 2 j rfl rfl rfl h
abbrev OV:= @CellT.pt_given
theorem CellT.sub_given(m:CellT){o k:Nat}(j:Nat)(ho:o=2+j)(h:j+k≤5){r:List Value}(hr:((ints m.given.toList).drop j).take k=r):((ints m.flat).drop o).take k=r:=by subst ho;rw[←hr,qA];exact(Dx m).sub 2 j k rfl rfl rfl h
theorem CellT.st_given(m:CellT){o:Nat}(j:Nat){v:Value}{u':Vector Int 5}(ho:o=2+j)(h:j<5)(hw:(ints m.given.toList).set j v=ints u'.toList):(ints m.flat).set o v=ints ({m with given:=u'}:CellT).flat:=by subst ho;rw[qA,qA];exact((Dx m).set 2 j v rfl rfl rfl h).trans (by rw[hw];rfl)
theorem RowT.sl(m:RowT):SL [[Value.int .i64 m.version],ints (bR m.cells.toList),ints m.heir.toList,ints (m.left.toList.flatMap λv=>bR v.toList)] [1,28,5,140]:=(.cons rfl (.cons (by simp[ints_length,cT]) (.cons (by simp[ints]) (.cons (by rw[ints_length,s5];simp) .nil))))
abbrev vc:= @RowT.sl
abbrev RowT.sg(m:RowT):List (List Value):=[[Value.int .i64 m.version],ints (bR m.cells.toList),ints m.heir.toList,ints (m.left.toList.flatMap λv=>bR v.toList)]
theorem RowT.eq(m:RowT):ints m.flat=[[Value.int .i64 m.version],ints (bR m.cells.toList),ints m.heir.toList,ints (m.left.toList.flatMap λv=>bR v.toList)].flatten:=by simp[RowT.flat,ints]
abbrev nh:= @RowT.eq
theorem RowT.at_version(m:RowT){o:Nat}(ho:o=0):(ints m.flat)[o]?=some (Value.int .i64 m.version):=by subst ho;rw[nh];exact(vc m).at 0 0 rfl rfl rfl (by decide)
abbrev cx:= @RowT.at_version
theorem RowT.set_version(m:RowT){o:Nat}(ho:o=0)(x:Int):(ints m.flat).set o (Value.int .i64 x)=ints ({m with version:=x}:RowT).flat:=by subst ho;rw[nh,nh];exact(vc m).set 0 0 _ rfl rfl rfl (by decide)
abbrev xX:= @RowT.set_version
theorem RowT.pt_cells(m:RowT){o:Nat}(j:Nat)(ho:o=1+j)(h:j<28){r:Option Value}(hr:(ints (bR m.cells.toList))[j]?=r):(ints m.flat)[o]?=r:=by subst ho;rw[←hr,nh];exact(vc m).at 1 j rfl rfl rfl h
abbrev vw:= @RowT.pt_cells
theorem RowT.sub_cells(m:RowT){o k:Nat}(j:Nat)(ho:o=1+j)(h:j+k≤28){r:List Value}(hr:((ints (bR m.cells.toList)).drop j).take k=r):((ints m.flat).drop o).take k=r:=by subst ho;rw[←hr,nh];exact(vc m).sub 1 j k rfl rfl rfl h
abbrev Dt:= @RowT.sub_cells
theorem RowT.st_cells(m:RowT){o:Nat}(j:Nat){v:Value}{u':Vector CellT 4}(ho:o=1+j)(h:j<28)(hw:(ints (bR m.cells.toList)).set j v=ints (bR u'.toList)):(ints m.flat).set o v=ints ({m with cells:=u'}:RowT).flat:=by subst ho;rw[nh,nh];exact((vc m).set 1 j v rfl rfl rfl h).trans (by rw[hw];rfl)
abbrev PP:= @RowT.st_cells
theorem RowT.pt_heir(m:RowT){o:Nat}(j:Nat)(ho:o=29+j)(h:j<5){r:Option Value}(hr:(ints m.heir.toList)[j]?=r):(ints m.flat)[o]?=r:=by subst ho;rw[←hr,nh];exact(vc m).at 2 j rfl rfl rfl h
abbrev rY:= @RowT.pt_heir
theorem RowT.sub_heir(m:RowT){o k:Nat}(j:Nat)(ho:o=29+j)(h:j+k≤5){r:List Value}(hr:((ints m.heir.toList).drop j).take k=r):((ints m.flat).drop o).take k=r:=by subst ho;rw[←hr,nh];exact(vc m).sub 2 j k rfl rfl rfl h
abbrev PO:= @RowT.sub_heir
theorem RowT.st_heir(m:RowT){o:Nat}(j:Nat){v:Value}{u':Vector Int 5}(ho:o=29+j)(h:j<5)(hw:(ints m.heir.toList).set j v=ints u'.toList):(ints m.flat).set o v=ints ({m with heir:=u'}:RowT).flat:=by subst ho;rw[nh,nh];exact((vc m).set 2 j v rfl rfl rfl h).trans (by rw[hw];rfl)
theorem RowT.sub_left(m:RowT){o k:Nat}(j:Nat)(ho:o=34+j)(h:j+k≤140){r:List Value}(hr:((ints (m.left.toList.flatMap λv=>bR v.toList)).drop j).take k=r):((ints m.flat).drop o).take k=r:=by subst ho;rw[←hr,nh];exact(vc m).sub 3 j k rfl rfl rfl h
abbrev F9:= @RowT.sub_left
theorem RowT.wr_left_(m:RowT){o:Nat}(j:Nat){vs:List Value}{u':Vector (Vector CellT 4) 5}(ho:o=34+j)(h:j+vs.length≤140)(hw:wr (ints (m.left.toList.flatMap λv=>bR v.toList)) j vs=ints (u'.toList.flatMap λv=>bR v.toList)):wr (ints m.flat) o vs=ints ({m with left:=u'}:RowT).flat:=by subst ho;rw[nh,nh];exact(vc m).putIn 3 j vs rfl rfl rfl h hw
theorem ViewT.sl(m:ViewT):SL [[Value.int .i64 m.epoch],[Value.int .i64 m.members],ints m.heirs.toList] [1,1,5]:=(.cons rfl (.cons rfl (.cons (by simp[ints]) .nil)))
abbrev xW:= @ViewT.sl
abbrev ViewT.sg(m:ViewT):List (List Value):=[[Value.int .i64 m.epoch],[Value.int .i64 m.members],ints m.heirs.toList]
theorem ViewT.eq(m:ViewT):ints m.flat=[[Value.int .i64 m.epoch],[Value.int .i64 m.members],ints m.heirs.toList].flatten:=by simp[ViewT.flat,ints]
abbrev nb:= @ViewT.eq
theorem ViewT.len(m:ViewT):(ints m.flat).length=7:=by rw[nb,(xW m).len];rfl
abbrev am:= @ViewT.len
theorem ViewT.at_epoch(m:ViewT){o:Nat}(ho:o=0):(ints m.flat)[o]?=some (Value.int .i64 m.epoch):=by subst ho;rw[nb];exact(xW m).at 0 0 rfl rfl rfl (by decide)
abbrev bb:= @ViewT.at_epoch
theorem ViewT.set_epoch(m:ViewT){o:Nat}(ho:o=0)(x:Int):(ints m.flat).set o (Value.int .i64 x)=ints ({m with epoch:=x}:ViewT).flat:=by subst ho;rw[nb,nb];exact(xW m).set 0 0 _ rfl rfl rfl (by decide)
theorem ViewT.at_members(m:ViewT){o:Nat}(ho:o=1):(ints m.flat)[o]?=some (Value.int .i64 m.members):=by subst ho;rw[nb];exact(xW m).at 1 0 rfl rfl rfl (by decide)
abbrev jW:= @ViewT.at_members
theorem ViewT.set_members(m:ViewT){o:Nat}(ho:o=1)(x:Int):(ints m.flat).set o (Value.int .i64 x)=ints ({m with members:=x}:ViewT).flat:=by subst ho;rw[nb,nb];exact(xW m).set 1 0 _ rfl rfl rfl (by decide)
theorem ViewT.pt_heirs(m:ViewT){o:Nat}(j:Nat)(ho:o=2+j)(h:j<5){r:Option Value}(hr:(ints m.heirs.toList)[j]?=r):(ints m.flat)[o]?=r:=by subst ho;rw[←hr,nb];exact(xW m).at 2 j rfl rfl rfl h
theorem ViewT.sub_heirs(m:ViewT){o k:Nat}(j:Nat)(ho:o=2+j)(h:j+k≤5){r:List Value}(hr:((ints m.heirs.toList).drop j).take k=r):((ints m.flat).drop o).take k=r:=by subst ho;rw[←hr,nb];exact(xW m).sub 2 j k rfl rfl rfl h
theorem ViewT.st_heirs(m:ViewT){o:Nat}(j:Nat){v:Value}{u':Vector Int 5}(ho:o=2+j)(h:j<5)(hw:(ints m.heirs.toList).set j v=ints u'.toList):(ints m.flat).set o v=ints ({m with heirs:=u'}:ViewT).flat:=by subst ho;rw[nb,nb];exact((xW m).set 2 j v rfl rfl rfl h).trans (by rw[hw];rfl)
theorem ChangeT.sl(m:ChangeT):SL [[Value.int .i64 m.kind],[Value.int .i64 m.who],[Value.int .i64 m.heir]] [1,1,1]:=(.cons rfl (.cons rfl (.cons rfl .nil)))
abbrev OU:= @ChangeT.sl
abbrev ChangeT.sg(m:ChangeT):List (List Value):=[[Value.int .i64 m.kind],[Value.int .i64 m.who],[Value.int .i64 m.heir]]
theorem ChangeT.eq(m:ChangeT):ints m.flat=[[Value.int .i64 m.kind],[Value.int .i64 m.who],[Value.int .i64 m.heir]].flatten:=by simp[ChangeT.flat,ints]
abbrev H0:= @ChangeT.eq
theorem ChangeT.len(m:ChangeT):(ints m.flat).length=3:=by rw[H0,(OU m).len];rfl
abbrev aI:= @ChangeT.len
theorem ChangeT.at_kind(m:ChangeT){o:Nat}(ho:o=0):(ints m.flat)[o]?=some (Value.int .i64 m.kind):=by subst ho;rw[H0];exact(OU m).at 0 0 rfl rfl rfl (by decide)
theorem ChangeT.at_who(m:ChangeT){o:Nat}(ho:o=1):(ints m.flat)[o]?=some (Value.int .i64 m.who):=by subst ho;rw[H0];exact(OU m).at 1 0 rfl rfl rfl (by decide)
abbrev iz:= @ChangeT.at_who
theorem ChangeT.at_heir(m:ChangeT){o:Nat}(ho:o=2):(ints m.flat)[o]?=some (Value.int .i64 m.heir):=by subst ho;rw[H0];exact(OU m).at 2 0 rfl rfl rfl (by decide)
abbrev qV:= @ChangeT.at_heir
theorem BallotT.sl(m:BallotT):SL [[Value.int .i64 m.round],[Value.int .i64 m.who]] [1,1]:=(.cons rfl (.cons rfl .nil))
abbrev BallotT.sg(m:BallotT):List (List Value):=[[Value.int .i64 m.round],[Value.int .i64 m.who]]
theorem BallotT.eq(m:BallotT):ints m.flat=[[Value.int .i64 m.round],[Value.int .i64 m.who]].flatten:=by simp[BallotT.flat,ints]
abbrev O0:= @BallotT.eq
theorem BallotT.len(m:BallotT):(ints m.flat).length=2:=by rw[O0,(BallotT.sl m).len];rfl
abbrev ap:= @BallotT.len
theorem BallotT.at_round(m:BallotT){o:Nat}(ho:o=0):(ints m.flat)[o]?=some (Value.int .i64 m.round):=by subst ho;rw[O0];exact(BallotT.sl m).at 0 0 rfl rfl rfl (by decide)
abbrev e8:= @BallotT.at_round
theorem BallotT.at_who(m:BallotT){o:Nat}(ho:o=1):(ints m.flat)[o]?=some (Value.int .i64 m.who):=by subst ho;rw[O0];exact(BallotT.sl m).at 1 0 rfl rfl rfl (by decide)
theorem MsgT.sl(m:MsgT):SL [[Value.int .i64 m.kind],[Value.int .i64 m.whose],ints m.row.flat,[Value.int .i64 m.version],[Value.int .i64 m.epoch],ints m.ballot.flat,ints m.had.flat,ints m.change.flat,ints m.view.flat] [1,1,174,1,1,2,2,3,7]:=(.cons rfl (.cons rfl (.cons (aj _) (.cons rfl (.cons rfl (.cons (ap _) (.cons (ap _) (.cons (aI _) (.cons (am _) .nil)))))))))
abbrev ia:= @MsgT.sl
abbrev MsgT.sg(m:MsgT):List (List Value):=[[Value.int .i64 m.kind],[Value.int .i64 m.whose],ints m.row.flat,[Value.int .i64 m.version],[Value.int .i64 m.epoch],ints m.ballot.flat,ints m.had.flat,ints m.change.flat,ints m.view.flat]
theorem MsgT.eq(m:MsgT):ints m.flat=[[Value.int .i64 m.kind],[Value.int .i64 m.whose],ints m.row.flat,[Value.int .i64 m.version],[Value.int .i64 m.epoch],ints m.ballot.flat,ints m.had.flat,ints m.change.flat,ints m.view.flat].flatten:=by simp[MsgT.flat,ints]
abbrev bq:= @MsgT.eq
theorem MsgT.len(m:MsgT):(ints m.flat).length=192:=by rw[bq,(ia m).len];rfl
abbrev aG:= @MsgT.len
theorem MsgT.at_kind(m:MsgT){o:Nat}(ho:o=0):(ints m.flat)[o]?=some (Value.int .i64 m.kind):=by subst ho;rw[bq];exact(ia m).at 0 0 rfl rfl rfl (by decide)
abbrev eR:= @MsgT.at_kind
theorem MsgT.set_kind(m:MsgT){o:Nat}(ho:o=0)(x:Int):(ints m.flat).set o (Value.int .i64 x)=ints ({m with kind:=x}:MsgT).flat:=by subst ho;rw[bq,bq];exact(ia m).set 0 0 _ rfl rfl rfl (by decide)
theorem MsgT.at_whose(m:MsgT){o:Nat}(ho:o=1):(ints m.flat)[o]?=some (Value.int .i64 m.whose):=by subst ho;rw[bq];exact(ia m).at 1 0 rfl rfl rfl (by decide)
abbrev cm:= @MsgT.at_whose
theorem MsgT.set_whose(m:MsgT){o:Nat}(ho:o=1)(x:Int):(ints m.flat).set o (Value.int .i64 x)=ints ({m with whose:=x}:MsgT).flat:=by subst ho;rw[bq,bq];exact(ia m).set 1 0 _ rfl rfl rfl (by decide)
theorem MsgT.pt_row(m:MsgT){o:Nat}(j:Nat)(ho:o=2+j)(h:j<174){r:Option Value}(hr:(ints m.row.flat)[j]?=r):(ints m.flat)[o]?=r:=by subst ho;rw[←hr,bq];exact(ia m).at 2 j rfl rfl rfl h
theorem MsgT.sub_row(m:MsgT){o k:Nat}(j:Nat)(ho:o=2+j)(h:j+k≤174){r:List Value}(hr:((ints m.row.flat).drop j).take k=r):((ints m.flat).drop o).take k=r:=by subst ho;rw[←hr,bq];exact(ia m).sub 2 j k rfl rfl rfl h
abbrev ma:= @MsgT.sub_row
theorem MsgT.wr_row_(m:MsgT){o:Nat}(j:Nat){vs:List Value}{u':RowT}(ho:o=2+j)(h:j+vs.length≤174)(hw:wr (ints m.row.flat) j vs=ints u'.flat):wr (ints m.flat) o vs=ints ({m with row:=u'}:MsgT).flat:=by subst ho;rw[bq,bq];exact(ia m).putIn 2 j vs rfl rfl rfl h hw
theorem MsgT.sp_row(m:MsgT):((ints m.flat).drop 2).take 174=ints m.row.flat:=ma m 0 rfl (by decide) (whole ((aj _):(ints m.row.flat).length=174))
theorem MsgT.wp_row(m:MsgT)(u:RowT):wr (ints m.flat) 2 (ints u.flat)=ints ({m with row:=u}:MsgT).flat:=MsgT.wr_row_ m 0 rfl (by rw[bg];exact cQ ((aj _):(ints u.flat).length=174)) (cr (Eq.trans ((aj _):(ints m.row.flat).length=174) (Eq.symm ((aj _):(ints u.flat).length=174))))
theorem MsgT.at_version(m:MsgT){o:Nat}(ho:o=176):(ints m.flat)[o]?=some (Value.int .i64 m.version):=by subst ho;rw[bq];exact(ia m).at 3 0 rfl rfl rfl (by decide)
theorem MsgT.set_version(m:MsgT){o:Nat}(ho:o=176)(x:Int):(ints m.flat).set o (Value.int .i64 x)=ints ({m with version:=x}:MsgT).flat:=by subst ho;rw[bq,bq];exact(ia m).set 3 0 _ rfl rfl rfl (by decide)
theorem MsgT.at_epoch(m:MsgT){o:Nat}(ho:o=177):(ints m.flat)[o]?=some (Value.int .i64 m.epoch):=by subst ho;rw[bq];exact(ia m).at 4 0 rfl rfl rfl (by decide)
abbrev eH:= @MsgT.at_epoch
theorem MsgT.set_epoch(m:MsgT){o:Nat}(ho:o=177)(x:Int):(ints m.flat).set o (Value.int .i64 x)=ints ({m with epoch:=x}:MsgT).flat:=by subst ho;rw[bq,bq];exact(ia m).set 4 0 _ rfl rfl rfl (by decide)
abbrev OP:= @MsgT.set_epoch
theorem MsgT.pt_ballot(m:MsgT){o:Nat}(j:Nat)(ho:o=178+j)(h:j<2){r:Option Value}(hr:(ints m.ballot.flat)[j]?=r):(ints m.flat)[o]?=r:=by subst ho;rw[←hr,bq];exact(ia m).at 5 j rfl rfl rfl h
theorem MsgT.sub_ballot(m:MsgT){o k:Nat}(j:Nat)(ho:o=178+j)(h:j+k≤2){r:List Value}(hr:((ints m.ballot.flat).drop j).take k=r):((ints m.flat).drop o).take k=r:=by subst ho;rw[←hr,bq];exact(ia m).sub 5 j k rfl rfl rfl h
abbrev iV:= @MsgT.sub_ballot
theorem MsgT.wr_ballot_(m:MsgT){o:Nat}(j:Nat){vs:List Value}{u':BallotT}(ho:o=178+j)(h:j+vs.length≤2)(hw:wr (ints m.ballot.flat) j vs=ints u'.flat):wr (ints m.flat) o vs=ints ({m with ballot:=u'}:MsgT).flat:=by subst ho;rw[bq,bq];exact(ia m).putIn 5 j vs rfl rfl rfl h hw
theorem MsgT.sp_ballot(m:MsgT):((ints m.flat).drop 178).take 2=ints m.ballot.flat:=iV m 0 rfl (by decide) (whole ((ap _):(ints m.ballot.flat).length=2))
abbrev ox:= @MsgT.sp_ballot
theorem MsgT.wp_ballot(m:MsgT)(u:BallotT):wr (ints m.flat) 178 (ints u.flat)=ints ({m with ballot:=u}:MsgT).flat:=MsgT.wr_ballot_ m 0 rfl (by rw[bg];exact cQ ((ap _):(ints u.flat).length=2)) (cr (Eq.trans ((ap _):(ints m.ballot.flat).length=2) (Eq.symm ((ap _):(ints u.flat).length=2))))
abbrev OO:= @MsgT.wp_ballot
theorem MsgT.sub_had(m:MsgT){o k:Nat}(j:Nat)(ho:o=180+j)(h:j+k≤2){r:List Value}(hr:((ints m.had.flat).drop j).take k=r):((ints m.flat).drop o).take k=r:=by subst ho;rw[←hr,bq];exact(ia m).sub 6 j k rfl rfl rfl h
abbrev Ql:= @MsgT.sub_had
theorem MsgT.wr_had_(m:MsgT){o:Nat}(j:Nat){vs:List Value}{u':BallotT}(ho:o=180+j)(h:j+vs.length≤2)(hw:wr (ints m.had.flat) j vs=ints u'.flat):wr (ints m.flat) o vs=ints ({m with had:=u'}:MsgT).flat:=by subst ho;rw[bq,bq];exact(ia m).putIn 6 j vs rfl rfl rfl h hw
theorem MsgT.sp_had(m:MsgT):((ints m.flat).drop 180).take 2=ints m.had.flat:=Ql m 0 rfl (by decide) (whole ((ap _):(ints m.had.flat).length=2))
theorem MsgT.wp_had(m:MsgT)(u:BallotT):wr (ints m.flat) 180 (ints u.flat)=ints ({m with had:=u}:MsgT).flat:=MsgT.wr_had_ m 0 rfl (by rw[bg];exact cQ ((ap _):(ints u.flat).length=2)) (cr (Eq.trans ((ap _):(ints m.had.flat).length=2) (Eq.symm ((ap _):(ints u.flat).length=2))))
theorem MsgT.sub_change(m:MsgT){o k:Nat}(j:Nat)(ho:o=182+j)(h:j+k≤3){r:List Value}(hr:((ints m.change.flat).drop j).take k=r):((ints m.flat).drop o).take k=r:=by subst ho;rw[←hr,bq];exact(ia m).sub 7 j k rfl rfl rfl h
abbrev ni:= @MsgT.sub_change
theorem MsgT.wr_change_(m:MsgT){o:Nat}(j:Nat){vs:List Value}{u':ChangeT}(ho:o=182+j)(h:j+vs.length≤3)(hw:wr (ints m.change.flat) j vs=ints u'.flat):wr (ints m.flat) o vs=ints ({m with change:=u'}:MsgT).flat:=by subst ho;rw[bq,bq];exact(ia m).putIn 7 j vs rfl rfl rfl h hw
theorem MsgT.sp_change(m:MsgT):((ints m.flat).drop 182).take 3=ints m.change.flat:=ni m 0 rfl (by decide) (whole ((aI _):(ints m.change.flat).length=3))
theorem MsgT.wp_change(m:MsgT)(u:ChangeT):wr (ints m.flat) 182 (ints u.flat)=ints ({m with change:=u}:MsgT).flat:=MsgT.wr_change_ m 0 rfl (by rw[bg];exact cQ ((aI _):(ints u.flat).length=3)) (cr (Eq.trans ((aI _):(ints m.change.flat).length=3) (Eq.symm ((aI _):(ints u.flat).length=3))))
abbrev ON:= @MsgT.wp_change
theorem MsgT.sub_view(m:MsgT){o k:Nat}(j:Nat)(ho:o=185+j)(h:j+k≤7){r:List Value}(hr:((ints m.view.flat).drop j).take k=r):((ints m.flat).drop o).take k=r:=by subst ho;rw[←hr,bq];exact(ia m).sub 8 j k rfl rfl rfl h
abbrev vC:= @MsgT.sub_view
theorem MsgT.wr_view_(m:MsgT){o:Nat}(j:Nat){vs:List Value}{u':ViewT}(ho:o=185+j)(h:j+vs.length≤7)(hw:wr (ints m.view.flat) j vs=ints u'.flat):wr (ints m.flat) o vs=ints ({m with view:=u'}:MsgT).flat:=by subst ho;rw[bq,bq];exact(ia m).putIn 8 j vs rfl rfl rfl h hw
theorem MsgT.sp_view(m:MsgT):((ints m.flat).drop 185).take 7=ints m.view.flat:=vC m 0 rfl (by decide) (whole ((am _):(ints m.view.flat).length=7))
theorem MsgT.wp_view(m:MsgT)(u:ViewT):wr (ints m.flat) 185 (ints u.flat)=ints ({m with view:=u}:MsgT).flat:=MsgT.wr_view_ m 0 rfl (by rw[bg];exact cQ ((am _):(ints u.flat).length=7)) (cr (Eq.trans ((am _):(ints m.view.flat).length=7) (Eq.symm ((am _):(ints u.flat).length=7))))
theorem RecT.sl(m:RecT):SL [[Value.int .i64 m.kind],[Value.int .i64 m.whose],ints m.row.flat,[Value.int .i64 m.epoch],ints m.ballot.flat,ints m.change.flat,ints m.view.flat] [1,1,174,1,2,3,7]:=(.cons rfl (.cons rfl (.cons (aj _) (.cons rfl (.cons (ap _) (.cons (aI _) (.cons (am _) .nil)))))))
abbrev l7:= @RecT.sl
abbrev RecT.sg(m:RecT):List (List Value):=[[Value.int .i64 m.kind],[Value.int .i64 m.whose],ints m.row.flat,[Value.int .i64 m.epoch],ints m.ballot.flat,ints m.change.flat,ints m.view.flat]
theorem RecT.eq(m:RecT):ints m.flat=[[Value.int .i64 m.kind],[Value.int .i64 m.whose],ints m.row.flat,[Value.int .i64 m.epoch],ints m.ballot.flat,ints m.change.flat,ints m.view.flat].flatten:=by simp[RecT.flat,ints]
abbrev e5:= @RecT.eq
theorem RecT.len(m:RecT):(ints m.flat).length=189:=by rw[e5,(l7 m).len];rfl
abbrev bl:= @RecT.len
theorem RecT.at_kind(m:RecT){o:Nat}(ho:o=0):(ints m.flat)[o]?=some (Value.int .i64 m.kind):=by subst ho;rw[e5];exact(l7 m).at 0 0 rfl rfl rfl (by decide)
abbrev kB:= @RecT.at_kind
theorem RecT.at_whose(m:RecT){o:Nat}(ho:o=1):(ints m.flat)[o]?=some (Value.int .i64 m.whose):=by subst ho;rw[e5];exact(l7 m).at 1 0 rfl rfl rfl (by decide)
abbrev Ga:= @RecT.at_whose
theorem RecT.set_whose(m:RecT){o:Nat}(ho:o=1)(x:Int):(ints m.flat).set o (Value.int .i64 x)=ints ({m with whose:=x}:RecT).flat:=by subst ho;rw[e5,e5];exact(l7 m).set 1 0 _ rfl rfl rfl (by decide)
theorem RecT.sub_row(m:RecT){o k:Nat}(j:Nat)(ho:o=2+j)(h:j+k≤174){r:List Value}(hr:((ints m.row.flat).drop j).take k=r):((ints m.flat).drop o).take k=r:=by subst ho;rw[←hr,e5];exact(l7 m).sub 2 j k rfl rfl rfl h
abbrev r9:= @RecT.sub_row
theorem RecT.wr_row_(m:RecT){o:Nat}(j:Nat){vs:List Value}{u':RowT}(ho:o=2+j)(h:j+vs.length≤174)(hw:wr (ints m.row.flat) j vs=ints u'.flat):wr (ints m.flat) o vs=ints ({m with row:=u'}:RecT).flat:=by subst ho;rw[e5,e5];exact(l7 m).putIn 2 j vs rfl rfl rfl h hw
theorem RecT.sp_row(m:RecT):((ints m.flat).drop 2).take 174=ints m.row.flat:=r9 m 0 rfl (by decide) (whole ((aj _):(ints m.row.flat).length=174))
theorem RecT.wp_row(m:RecT)(u:RowT):wr (ints m.flat) 2 (ints u.flat)=ints ({m with row:=u}:RecT).flat:=RecT.wr_row_ m 0 rfl (by rw[bg];exact cQ ((aj _):(ints u.flat).length=174)) (cr (Eq.trans ((aj _):(ints m.row.flat).length=174) (Eq.symm ((aj _):(ints u.flat).length=174))))
theorem RecT.at_epoch(m:RecT){o:Nat}(ho:o=176):(ints m.flat)[o]?=some (Value.int .i64 m.epoch):=by subst ho;rw[e5];exact(l7 m).at 3 0 rfl rfl rfl (by decide)
theorem RecT.set_epoch(m:RecT){o:Nat}(ho:o=176)(x:Int):(ints m.flat).set o (Value.int .i64 x)=ints ({m with epoch:=x}:RecT).flat:=by subst ho;rw[e5,e5];exact(l7 m).set 3 0 _ rfl rfl rfl (by decide)
theorem RecT.pt_ballot(m:RecT){o:Nat}(j:Nat)(ho:o=177+j)(h:j<2){r:Option Value}(hr:(ints m.ballot.flat)[j]?=r):(ints m.flat)[o]?=r:=by subst ho;rw[←hr,e5];exact(l7 m).at 4 j rfl rfl rfl h
theorem RecT.sub_ballot(m:RecT){o k:Nat}(j:Nat)(ho:o=177+j)(h:j+k≤2){r:List Value}(hr:((ints m.ballot.flat).drop j).take k=r):((ints m.flat).drop o).take k=r:=by subst ho;rw[←hr,e5];exact(l7 m).sub 4 j k rfl rfl rfl h
abbrev qT:= @RecT.sub_ballot
theorem RecT.wr_ballot_(m:RecT){o:Nat}(j:Nat){vs:List Value}{u':BallotT}(ho:o=177+j)(h:j+vs.length≤2)(hw:wr (ints m.ballot.flat) j vs=ints u'.flat):wr (ints m.flat) o vs=ints ({m with ballot:=u'}:RecT).flat:=by subst ho;rw[e5,e5];exact(l7 m).putIn 4 j vs rfl rfl rfl h hw
theorem RecT.sp_ballot(m:RecT):((ints m.flat).drop 177).take 2=ints m.ballot.flat:=qT m 0 rfl (by decide) (whole ((ap _):(ints m.ballot.flat).length=2))
theorem RecT.wp_ballot(m:RecT)(u:BallotT):wr (ints m.flat) 177 (ints u.flat)=ints ({m with ballot:=u}:RecT).flat:=RecT.wr_ballot_ m 0 rfl (by rw[bg];exact cQ ((ap _):(ints u.flat).length=2)) (cr (Eq.trans ((ap _):(ints m.ballot.flat).length=2) (Eq.symm ((ap _):(ints u.flat).length=2))))
theorem RecT.sub_change(m:RecT){o k:Nat}(j:Nat)(ho:o=179+j)(h:j+k≤3){r:List Value}(hr:((ints m.change.flat).drop j).take k=r):((ints m.flat).drop o).take k=r:=by subst ho;rw[←hr,e5];exact(l7 m).sub 5 j k rfl rfl rfl h
abbrev Nb:= @RecT.sub_change
theorem RecT.wr_change_(m:RecT){o:Nat}(j:Nat){vs:List Value}{u':ChangeT}(ho:o=179+j)(h:j+vs.length≤3)(hw:wr (ints m.change.flat) j vs=ints u'.flat):wr (ints m.flat) o vs=ints ({m with change:=u'}:RecT).flat:=by subst ho;rw[e5,e5];exact(l7 m).putIn 5 j vs rfl rfl rfl h hw
theorem RecT.sp_change(m:RecT):((ints m.flat).drop 179).take 3=ints m.change.flat:=Nb m 0 rfl (by decide) (whole ((aI _):(ints m.change.flat).length=3))
theorem RecT.wp_change(m:RecT)(u:ChangeT):wr (ints m.flat) 179 (ints u.flat)=ints ({m with change:=u}:RecT).flat:=RecT.wr_change_ m 0 rfl (by rw[bg];exact cQ ((aI _):(ints u.flat).length=3)) (cr (Eq.trans ((aI _):(ints m.change.flat).length=3) (Eq.symm ((aI _):(ints u.flat).length=3))))
theorem RecT.sub_view(m:RecT){o k:Nat}(j:Nat)(ho:o=182+j)(h:j+k≤7){r:List Value}(hr:((ints m.view.flat).drop j).take k=r):((ints m.flat).drop o).take k=r:=by subst ho;rw[←hr,e5];exact(l7 m).sub 6 j k rfl rfl rfl h
abbrev PY:= @RecT.sub_view
theorem RecT.wr_view_(m:RecT){o:Nat}(j:Nat){vs:List Value}{u':ViewT}(ho:o=182+j)(h:j+vs.length≤7)(hw:wr (ints m.view.flat) j vs=ints u'.flat):wr (ints m.flat) o vs=ints ({m with view:=u'}:RecT).flat:=by subst ho;rw[e5,e5];exact(l7 m).putIn 6 j vs rfl rfl rfl h hw
theorem RecT.sp_view(m:RecT):((ints m.flat).drop 182).take 7=ints m.view.flat:=PY m 0 rfl (by decide) (whole ((am _):(ints m.view.flat).length=7))
theorem RecT.wp_view(m:RecT)(u:ViewT):wr (ints m.flat) 182 (ints u.flat)=ints ({m with view:=u}:RecT).flat:=RecT.wr_view_ m 0 rfl (by rw[bg];exact cQ ((am _):(ints u.flat).length=7)) (cr (Eq.trans ((am _):(ints m.view.flat).length=7) (Eq.symm ((am _):(ints u.flat).length=7))))
theorem OpT.sl(m:OpT):SL [[Value.int .i64 m.kind],[Value.int .i64 m.at'],[Value.int .i64 m.to'],[Value.int .i64 m.key],[Value.int .i64 m.n],ints m.change.flat,[Value.int .i64 m.mask],[Value.int .i64 m.torn],[Value.int .i64 m.cut]] [1,1,1,1,1,3,1,1,1]:=(.cons rfl (.cons rfl (.cons rfl (.cons rfl (.cons rfl (.cons (aI _) (.cons rfl (.cons rfl (.cons rfl .nil)))))))))
abbrev qU:= @OpT.sl
abbrev OpT.sg(m:OpT):List (List Value):=[[Value.int .i64 m.kind],[Value.int .i64 m.at'],[Value.int .i64 m.to'],[Value.int .i64 m.key],[Value.int .i64 m.n],ints m.change.flat,[Value.int .i64 m.mask],[Value.int .i64 m.torn],[Value.int .i64 m.cut]]
theorem OpT.eq(m:OpT):ints m.flat=[[Value.int .i64 m.kind],[Value.int .i64 m.at'],[Value.int .i64 m.to'],[Value.int .i64 m.key],[Value.int .i64 m.n],ints m.change.flat,[Value.int .i64 m.mask],[Value.int .i64 m.torn],[Value.int .i64 m.cut]].flatten:=by simp[OpT.flat,ints]
abbrev lU:= @OpT.eq
theorem OpT.len(m:OpT):(ints m.flat).length=11:=by rw[lU,(qU m).len];rfl
abbrev hY:= @OpT.len
theorem OpT.at_kind(m:OpT){o:Nat}(ho:o=0):(ints m.flat)[o]?=some (Value.int .i64 m.kind):=by subst ho;rw[lU];exact(qU m).at 0 0 rfl rfl rfl (by decide)
abbrev cI:= @OpT.at_kind
theorem OpT.at_at'(m:OpT){o:Nat}(ho:o=1):(ints m.flat)[o]?=some (Value.int .i64 m.at'):=by subst ho;rw[lU];exact(qU m).at 1 0 rfl rfl rfl (by decide)
abbrev bO:= @OpT.at_at'
theorem OpT.at_to'(m:OpT){o:Nat}(ho:o=2):(ints m.flat)[o]?=some (Value.int .i64 m.to'):=by subst ho;rw[lU];exact(qU m).at 2 0 rfl rfl rfl (by decide)
abbrev iy:= @OpT.at_to'
theorem OpT.at_key(m:OpT){o:Nat}(ho:o=3):(ints m.flat)[o]?=some (Value.int .i64 m.key):=by subst ho;rw[lU];exact(qU m).at 3 0 rfl rfl rfl (by decide)
abbrev pE:= @OpT.at_key
theorem OpT.at_n(m:OpT){o:Nat}(ho:o=4):(ints m.flat)[o]?=some (Value.int .i64 m.n):=by subst ho;rw[lU];exact(qU m).at 4 0 rfl rfl rfl (by decide)
abbrev tm:= @OpT.at_n
theorem OpT.sub_change(m:OpT){o k:Nat}(j:Nat)(ho:o=5+j)(h:j+k≤3){r:List Value}(hr:((ints m.change.flat).drop j).take k=r):((ints m.flat).drop o).take k=r:=by subst ho;rw[←hr,lU];exact(qU m).sub 5 j k rfl rfl rfl h
theorem OpT.wr_change_(m:OpT){o:Nat}(j:Nat){vs:List Value}{u':ChangeT}(ho:o=5+j)(h:j+vs.length≤3)(hw:wr (ints m.change.flat) j vs=ints u'.flat):wr (ints m.flat) o vs=ints ({m with change:=u'}:OpT).flat:=by subst ho;rw[lU,lU];exact(qU m).putIn 5 j vs rfl rfl rfl h hw
theorem OpT.sp_change(m:OpT):((ints m.flat).drop 5).take 3=ints m.change.flat:=OpT.sub_change m 0 rfl (by decide) (whole ((aI _):(ints m.change.flat).length=3))
theorem OpT.wp_change(m:OpT)(u:ChangeT):wr (ints m.flat) 5 (ints u.flat)=ints ({m with change:=u}:OpT).flat:=OpT.wr_change_ m 0 rfl (by rw[bg];exact cQ ((aI _):(ints u.flat).length=3)) (cr (Eq.trans ((aI _):(ints m.change.flat).length=3) (Eq.symm ((aI _):(ints u.flat).length=3))))
theorem OpT.at_mask(m:OpT){o:Nat}(ho:o=8):(ints m.flat)[o]?=some (Value.int .i64 m.mask):=by subst ho;rw[lU];exact(qU m).at 6 0 rfl rfl rfl (by decide)
theorem OpT.set_mask(m:OpT){o:Nat}(ho:o=8)(x:Int):(ints m.flat).set o (Value.int .i64 x)=ints ({m with mask:=x}:OpT).flat:=by subst ho;rw[lU,lU];exact(qU m).set 6 0 _ rfl rfl rfl (by decide)
theorem OpT.at_torn(m:OpT){o:Nat}(ho:o=9):(ints m.flat)[o]?=some (Value.int .i64 m.torn):=by subst ho;rw[lU];exact(qU m).at 7 0 rfl rfl rfl (by decide)
theorem OpT.set_torn(m:OpT){o:Nat}(ho:o=9)(x:Int):(ints m.flat).set o (Value.int .i64 x)=ints ({m with torn:=x}:OpT).flat:=by subst ho;rw[lU,lU];exact(qU m).set 7 0 _ rfl rfl rfl (by decide)
theorem OpT.at_cut(m:OpT){o:Nat}(ho:o=10):(ints m.flat)[o]?=some (Value.int .i64 m.cut):=by subst ho;rw[lU];exact(qU m).at 8 0 rfl rfl rfl (by decide)
theorem OpT.set_cut(m:OpT){o:Nat}(ho:o=10)(x:Int):(ints m.flat).set o (Value.int .i64 x)=ints ({m with cut:=x}:OpT).flat:=by subst ho;rw[lU,lU];exact(qU m).set 8 0 _ rfl rfl rfl (by decide)
theorem ReplyT.sl(m:ReplyT):SL [[Value.int .i64 m.op],[Value.int .i64 m.err],[Value.int .i64 m.value]] [1,1,1]:=(.cons rfl (.cons rfl (.cons rfl .nil)))
abbrev Qa:= @ReplyT.sl
abbrev ReplyT.sg(m:ReplyT):List (List Value):=[[Value.int .i64 m.op],[Value.int .i64 m.err],[Value.int .i64 m.value]]
theorem ReplyT.eq(m:ReplyT):ints m.flat=[[Value.int .i64 m.op],[Value.int .i64 m.err],[Value.int .i64 m.value]].flatten:=by simp[ReplyT.flat,ints]
abbrev Ln:= @ReplyT.eq
theorem ReplyT.len(m:ReplyT):(ints m.flat).length=3:=by rw[Ln,(Qa m).len];rfl
abbrev pA:= @ReplyT.len
theorem ReplyT.at_op(m:ReplyT){o:Nat}(ho:o=0):(ints m.flat)[o]?=some (Value.int .i64 m.op):=by subst ho;rw[Ln];exact(Qa m).at 0 0 rfl rfl rfl (by decide)
abbrev Qh:= @ReplyT.at_op
theorem ReplyT.at_err(m:ReplyT){o:Nat}(ho:o=1):(ints m.flat)[o]?=some (Value.int .i64 m.err):=by subst ho;rw[Ln];exact(Qa m).at 1 0 rfl rfl rfl (by decide)
abbrev PQ:= @ReplyT.at_err
theorem ReplyT.at_value(m:ReplyT){o:Nat}(ho:o=2):(ints m.flat)[o]?=some (Value.int .i64 m.value):=by subst ho;rw[Ln];exact(Qa m).at 2 0 rfl rfl rfl (by decide)
abbrev Na:= @ReplyT.at_value
end Api
end
section
namespace Leg
open Go Api
variable {P:Program} {w0:World} {F:Hl} {n:Nat} {ops:Array Oper} {Q:QQ} {D:List Deferred} {L:List (Nat×Value)} {H:List HP} {d:Nat} {o:Oper} {l:List Oper}
theorem SW{o:Oper}{l:List Oper}{α:Type}{f:α→List Int}{t e:TypeId}{p y:Operand}{b m:Nat}{x x0:α}(k:Nat)(hs:(P.info? t).map (·.size)=some m)(hf: ∀x,(ints (f x)).length=m)(h:TL P w0 F n ops Q l D L (H.set k (ah b (ints (f x)) e)))(hw:Want n D ops o L:=by first|exact aa rfl|exact bS rfl rfl rfl)(hd:o.dst=none:=by exact rfl)(ho:o.op= .store t p y:=by exact rfl)(hp:cA L p=some (.pointer (some ⟨b,0,none⟩)):=by exact rfl)(hy:cA L y=some (.agg (ints (f x)).toArray):=by exact rfl)(hk:Nat.blt k H.length=true:=by exact rfl)(hH:H.getD k (λ_=>True)=ah b (ints (f x0)) e:=by exact rfl):TL P w0 F n ops Q (o::l) D L H:=bP (vs:=ints (f x)) hw ho hd hp hy rfl (by rw[hf];exact hs) (bj _) hk hH (by rw[hf,hf];omega) (cr ((hf x0).trans (hf x).symm)) rfl h
theorem LY{S:World→Prop}{d fuel:Nat}{listed:Array Bool}{o:Oper}{α:Type}{f:α→List Int}{t e:TypeId}{x:Operand}{dt:TypeDesc}{b m:Nat}{y:α}{z:Nat×Nat}(i:Nat)(ht:P.underlying t=some dt)(hz:(P.info? t).map (·.size)=some m)(hf: ∀x,(ints (f x)).length=m)(h:TD P w0 F n ops Q S fuel (listed.setIfInBounds i true) D ((d, .agg (ints (f y)).toArray)::L) H)(hi:ops[i]?=some o:=by exact rfl)(hw:Want n D ops o L:=by first|exact aa rfl|exact bS rfl rfl rfl)(hd:o.dst=some d:=by exact rfl)(hn:Nat.blt d n=true:=by exact rfl)(hs:(Region.noSelect ops&&Region.free .any ops listed i&&(Region.ready .any ops listed).contains i)=true:=by kernel_rfl)(hQ: ∀c a v w,Q (.panic c) (a.put o.dst v) w→Q (.panic c) a w:=by exact λ_ _ _ _ h=>h)(ho:o.op= .load t x:=by exact rfl)(hp:ei dt=false:=by exact rfl)(hx:cA L x=some (.pointer (some ⟨b,0,none⟩)):=by exact rfl)(hR:Rd S b (.cells (ints (f y)).toArray e z):=by first|exact λ_ h=>h.2.1|exact λ_ h=>h.2.2.1|exact λ_ h=>h.2.2.2.1|exact λ_ h=>h.2.2.2.2.1|exact λ_ h=>h.2.2.2.2.2.1):TD P w0 F n ops Q S (fuel+1) listed D L H:=by
  rw[ax,ax]at hs;exact dE hi hs.1.1 hs.1.2 hs.2 hQ hw hd hn (aM ho ht hp hz hx hR (hf y) (by rw[aV,az (by rw[hf];exact aK _)])) h
theorem SP{o:Oper}{l:List Oper}{α β:Type}{f:α→List Int}{c:β→List Value}{put:β→α→β}{t e:TypeId}{p y:Operand}{b j m m':Nat}{x:α}{z:β}(k:Nat)(hs:(P.info? t).map (·.size)=some m)(hf: ∀x,(ints (f x)).length=m)(hc: ∀z,(c z).length=m')(hw': ∀z x,wr (c z) j (ints (f x))=c (put z x))(h:TL P w0 F n ops Q l D L (H.set k (ah b (c (put z x)) e)))(hw:Want n D ops o L:=by first|exact aa rfl|exact bS rfl rfl rfl)(hd:o.dst=none:=by exact rfl)(ho:o.op= .store t p y:=by exact rfl)(hp:cA L p=some (.pointer (some ⟨b,j,none⟩)):=by exact rfl)(hy:cA L y=some (.agg (ints (f x)).toArray):=by exact rfl)(hk:Nat.blt k H.length=true:=by exact rfl)(hH:H.getD k (λ_=>True)=ah b (c z) e:=by exact rfl)(hj:Nat.ble (j+m) m'=true:=by first|exact rfl|exact Nat.ble_eq_true_of_le (by omega)):TL P w0 F n ops Q (o::l) D L H:=bP (vs:=ints (f x)) hw ho hd hp hy rfl (by rw[hf];exact hs) (bj _) hk hH (by rw[hf,hc];exact fm hj) (hw' z x) rfl h
theorem SS{o:Oper}{l:List Oper}{t e:TypeId}{x y:Operand}{b j m:Nat}{cs cs':List Value}{v:Value}(k:Nat)(hs:(P.info? t).map (·.size)=some 1)(hl:cs.length=m)(hc:cs.set j v=cs')(h:TL P w0 F n ops Q l D L (H.set k (ah b cs' e)))(hw:Want n D ops o L:=by first|exact aa rfl|exact bS rfl rfl rfl)(hd:o.dst=none:=by exact rfl)(ho:o.op= .store t x y:=by exact rfl)(hx:cA L x=some (.pointer (some ⟨b,j,none⟩)):=by exact rfl)(hy:cA L y=some v:=by exact rfl)(h1:v.oneCell'=true:=by exact rfl)(hk:Nat.blt k H.length=true:=by exact rfl)(hH:H.getD k (λ_=>True)=ah b cs e:=by exact rfl)(hj:Nat.blt j m=true:=by first|exact rfl|exact Nat.ble_eq_true_of_le (by omega)):TL P w0 F n ops Q (o::l) D L H:=bw hw ho hd hx hy h1 hs hk hH (hl▸lb hj) hc rfl h
theorem LW{α:Type}{f:α→List Int}{t e:TypeId}{x:Operand}{dt:TypeDesc}{b m:Nat}{z:α}(k:Nat)(ht:P.underlying t=some dt)(hs:(P.info? t).map (·.size)=some m)(hf: ∀x,(ints (f x)).length=m)(h:TL P w0 F n ops Q l D ((d, .agg (ints (f z)).toArray)::L) H)(hw:Want n D ops o L:=by first|exact aa rfl|exact bS rfl rfl rfl)(hd:o.dst=some d:=by exact rfl)(hn:Nat.blt d n=true:=by exact rfl)(ho:o.op= .load t x:=by exact rfl)(hp:ei dt=false:=by exact rfl)(hx:cA L x=some (.pointer (some ⟨b,0,none⟩)):=by exact rfl)(hk:Nat.blt k H.length=true:=by exact rfl)(hH:H.getD k (λ_=>True)=ah b (ints (f z)) e:=by exact rfl):TL P w0 F n ops Q (o::l) D L H:=dz hw hd hn (aM ho ht hp hs hx (dR k hk hH) (hf z) (whole (hf z))) h
theorem LV{α β:Type}{f:α→List Int}{c:β→List Value}{g:β→α}{t e:TypeId}{x:Operand}{dt:TypeDesc}{b j m:Nat}{z:β}{y:α}(k:Nat)(ht:P.underlying t=some dt)(hs:(P.info? t).map (·.size)=some m)(hf: ∀x,(ints (f x)).length=m)(hg: ∀z,((c z).drop j).take m=ints (f (g z)))(h:TL P w0 F n ops Q l D ((d, .agg (ints (f y)).toArray)::L) H)(hw:Want n D ops o L:=by first|exact aa rfl|exact bS rfl rfl rfl)(hd:o.dst=some d:=by exact rfl)(hn:Nat.blt d n=true:=by exact rfl)(ho:o.op= .load t x:=by exact rfl)(hp:ei dt=false:=by exact rfl)(hx:cA L x=some (.pointer (some ⟨b,j,none⟩)):=by exact rfl)(hk:Nat.blt k H.length=true:=by exact rfl)(hH:H.getD k (λ_=>True)=ah b (c z) e:=by exact rfl)(hyz:g z=y:=by exact rfl):TL P w0 F n ops Q (o::l) D L H:=dz hw hd hn (aM ho ht hp hs hx (dR k hk hH) (hf _) ((hg z).trans (by rw[hyz]))) h
theorem LT{t e:TypeId}{x:Operand}{dt:TypeDesc}{b j:Nat}{cs:List Value}(k:Nat)(ht:P.underlying t=some dt)(v:Value)(h:TL P w0 F n ops Q l D ((d,v)::L) H)(hw:Want n D ops o L:=by first|exact aa rfl|exact bS rfl rfl rfl)(hd:o.dst=some d:=by exact rfl)(hn:Nat.blt d n=true:=by exact rfl)(ho:o.op= .load t x:=by exact rfl)(hp:ei dt=true:=by exact rfl)(hx:cA L x=some (.pointer (some ⟨b,j,none⟩)):=by exact rfl)(hk:Nat.blt k H.length=true:=by exact rfl)(hH:H.getD k (λ_=>True)=ah b cs e:=by exact rfl)(hc:cs[j]?=some v):TL P w0 F n ops Q (o::l) D L H:=dz hw hd hn (eZ ho ht hp hx (dR k hk hH) hc) h
theorem ll{P:Program}{n:Nat}{D:List Deferred}{L:List (Nat×Value)}{S:World→Prop}{o:Oper}{α:Type}{f:α→List Int}{g:α→List (List Value)}{t:TypeId}{ps:Array (Nat×Operand)}{fs:Array Field}{vals:List (Nat×Value)}(z x:α)(parts:List (Nat×List Value))(ht:P.underlying t=some (.struct fs))(hg: ∀m,ints (f m)=(g m).flatten)(ho:o.op= .build t ps:=by exact rfl)(hx:JZ L ps.toList=some vals:=by exact rfl)(hz:(P.info? t).map (·.zero)=some (some (.agg (g z).flatten.toArray)):=by kernel_rfl)(hp:fs.toList.mapM (λf=>(P.info? f.type).map λi=>(f.offset,i.size))=some (vi (g z) 0):=by kernel_rfl)(hv:vals.map (λp=>(p.1,p.2.cells))=parts.map (λp=>(p.1,p.2.toArray)):=by exact rfl)(h:kN (g z) parts=some (g x):=by repeat (first|exact lF|exact rfl|refine e9 rfl (by first|exact rfl|exact(aj _).trans (aj _).symm|exact(am _).trans (am _).symm|exact(ap _).trans (ap _).symm|exact(aI _).trans (aI _).symm|exact(bm _).trans (bm _).symm) ?_)):PV P n D L S o (.agg (ints (f x)).toArray):=(hg x).symm▸yL ho hx ht hz hp hv h rfl
end Leg
end

section
namespace Codec
open Go Leg Api
theorem pQ(c:UInt8):UInt8.ofNat c.toNat=c:=by simp
theorem zd: ∀(bs:List UInt8) (k acc m:Nat) (r:List UInt8),k≤9→kp k acc bs=some (m,r)→∃p,m=acc+p*2^ (7*k)∧bs=xB p++r∧(0<k→0<p)∧p<2^ (7* (9-k))
 | [],k,acc,m,r,_,h=>by simp[kp]at h
 |c::cs,k,acc,m,r,hk,h=>by
  have hc:c.toNat<256:=c.toNat_lt;simp only[kp]at h;split at h
  · cases h
  · rename_i h9
    split at h
    · rename_i h128
      obtain⟨p,h1,h2,h3,h4⟩:=zd cs (k+1) _ m r (by omega) h;have hp:=h3 (by omega);refine⟨c.toNat%128+128*p,?_,?_,λ_=>by omega,?_⟩
      · rw[h1,show 7* (k+1)=7*k+7 by omega,Nat.pow_add,fL,vB]
        congr 2;rw[Nat.mul_comm 128 p,Nat.mul_assoc,Nat.mul_comm 128]
      · rw[vK (by omega),show(c.toNat%128+128*p)%128+128=c.toNat by omega,show(c.toNat%128+128*p) / 128=p by omega,pQ,h2];rfl
      · rw[show 7* (9-k)=7* (9- (k+1))+7 by omega,Nat.pow_add];omega
    · rename_i h128
      split at h
      · cases h
      · rename_i h0
        simp only[Option.some.injEq,Prod.mk.injEq]at h;obtain⟨rfl,rfl⟩:=h;refine⟨c.toNat,by rw[show c.toNat%128=c.toNat by omega],by rw[s8 (by omega),pQ];rfl,λ_=>by omega,?_⟩;have:2^7≤2^ (7* (9-k)):=Nat.pow_le_pow_right (by decide) (by omega);omega
theorem lh{bs r:List UInt8}{n:Int}(h:nj bs=some (n,r)):0≤n∧n<9223372036854775808∧bs=vj n++r:=by
 simp only[nj]at h;split at h
 · cases h
 · rename_i m r' hm
   simp only[Option.some.injEq,Prod.mk.injEq]at h;obtain⟨rfl,rfl⟩:=h;obtain⟨p,h1,h2,_,h4⟩:=zd bs 0 0 m r' (by omega) hm;simp at h1;subst h1;refine⟨by omega,by simp at h4;omega,?_⟩;rw[h2,vj];congr 2;simp at h4;omega
def zJ(n:Int):Prop:=0≤n∧n<1099511627777
structure TameC(c:CellT):Prop where
 inn:zJ c.inn
 out:zJ c.out
 given: ∀(j:Nat) (h:j<5),zJ c.given[j]
structure TameR(x:RowT):Prop where
 version:0≤x.version∧x.version<9223372036854775808
 cells: ∀(k:Nat) (h:k<4),TameC x.cells[k]
 heir: ∀(i:Nat) (h:i<5),0≤x.heir[i]∧x.heir[i]<9223372036854775808
 left: ∀(i k:Nat) (h:i<5) (hk:k<4),TameC x.left[i][k]
 none: ∀(i:Nat) (h:i<5),x.heir[i]=(0:Int)→x.left[i]=RowT.zero.left[0]
def Il(c:CellT):CellT:=⟨JY c.inn,JY c.out,c.given.map JY⟩
theorem Ik(c:CellT):TameC (Il c):=by
 have h:=λn=>MU n
 refine⟨⟨(h _).1,by have:=(h c.inn).2;show JY c.inn<_;omega⟩,⟨(h _).1,by have:=(h c.out).2;show JY c.out<_;omega⟩,λj hj=>?_⟩;show zJ ((c.given.map JY)[j]);rw[Vector.getElem_map];exact⟨(h _).1,by have:=(h c.given[j]).2;omega⟩
theorem DR:Il CellT.zero=CellT.zero:=by
 simp only[Il,CellT.zero,CellT.mk.injEq];exact⟨by decide,by decide,by simp[JY]⟩
theorem sj{n:Int}(h:0≤n∧n<9223372036854775808):(Lit.int .i64 n).wf=true:=by
 have m1:IntKind.i64.min= -9223372036854775808:=by decide
 have m2:IntKind.i64.max=9223372036854775807:=by decide
 simp only[Lit.wf,m1,m2,ax,decide_eq_true_eq];omega
theorem TameC.wf{c:CellT}(h:TameC c):WF c.flat:=λn hn=>by
 simp only[CellT.flat,bN]at hn;have s: ∀n,zJ n→(Lit.int .i64 n).wf=true:=λn h=>sj ⟨h.1,by have:=h.2;omega⟩
 rcases hn with rfl|rfl|hn
 · exact s _ h.inn
 · exact s _ h.out
 · obtain⟨j,hj,rfl⟩:=fe hn
   rw[aA]at hj;have:=s _ (h.given j hj)
   simpa using this
theorem Bn{v:Vector CellT 4}(h: ∀(k:Nat) (hk:k<4),TameC v[k]):WF (bR v.toList):=λn hn=>by
 obtain⟨c,hc,hn⟩:=jZ.1 hn;obtain⟨j,hj,rfl⟩:=fe hc;rw[aA]at hj;have:=(h j hj).wf n;simp only[Vector.getElem_toList]at hn;exact this hn
theorem TameR.wf{x:RowT}(h:TameR x):WF x.flat:=λn hn=>by
 simp only[RowT.flat,bN,cG]at hn;rcases hn with rfl|hn|hn|hn
 · exact sj h.version
 · exact Bn h.cells n hn
 · obtain⟨j,hj,rfl⟩:=fe hn
   rw[aA]at hj
   simpa using sj (h.heir j hj)
 · obtain⟨v,hv,hn⟩:=jZ.1 hn
   obtain⟨j,hj,rfl⟩:=fe hv;rw[aA]at hj;simp only[Vector.getElem_toList]at hn;exact Bn (λk hk=>h.left j k hj hk) n hn
theorem iC{P:Program}{t:TypeId}{l:List Int}{c:Nat}(hu:(match P.underlying t with|some (.struct _)|some (.array _ _)=>true|_=>false)=true)(hc:P.cellsOf t=c)(hl:l.length=c):(agI l).formed P t=true:=by
 have e:((ints l).toArray.size==P.cellsOf t)=true:=by simp[ints,hl,hc]
 unfold agI Value.formed;split at hu
 · rename_i h;simp only[h];exact e
 · rename_i h;simp only[h];exact e
 · cases hu
theorem bK{α β:Type}{p:Ps α}{q:α→Ps β}{bs r:List UInt8}{b:β}(h:pb p q bs=some (b,r)): ∃a r',p bs=some (a,r')∧q a r'=some (b,r):=by
 cases e:p bs with
 |none=>rw[bU e]at h;cases h
 |some x=>obtain⟨a,r'⟩:=x;rw[aD e]at h;exact⟨a,r',rfl,h⟩
theorem ie{α:Type}{a b:α}{bs r:List UInt8}(h:pr a bs=some (b,r)):a=b∧bs=r:=by
 simp only[pr,Option.some.injEq,Prod.mk.injEq]at h;exact h
theorem dr{lim n:Int}{bs r:List UInt8}(h:fg lim bs=some (n,r)):(0≤n∧n<lim∧n<9223372036854775808)∧bs=vj n++r:=by
 obtain⟨a,r',h1,h2⟩:=bK h;obtain⟨k1,k2,k3⟩:=lh h1;split at h2
 · cases h2
 · obtain⟨rfl,rfl⟩:=ie h2
   exact⟨⟨k1,by omega,k2⟩,k3⟩
theorem zB{c:CellT}{bs r:List UInt8}(h:mm bs=some (c,r)):TameC c∧bs=bi c.flat++r:=by
 obtain⟨i,_,h1,h⟩:=bK h;obtain⟨o,_,h2,h⟩:=bK h;obtain⟨a,_,h3,h⟩:=bK h;obtain⟨b,_,h4,h⟩:=bK h;obtain⟨d,_,h5,h⟩:=bK h;obtain⟨e,_,h6,h⟩:=bK h;obtain⟨f,_,h7,h⟩:=bK h;obtain⟨rfl,rfl⟩:=ie h;obtain⟨k1,rfl⟩:=dr h1;obtain⟨k2,rfl⟩:=dr h2;obtain⟨k3,rfl⟩:=dr h3;obtain⟨k4,rfl⟩:=dr h4;obtain⟨k5,rfl⟩:=dr h5;obtain⟨k6,rfl⟩:=dr h6;obtain⟨k7,rfl⟩:=dr h7;have s: ∀{n:Int},(0≤n∧n<1099511627777∧n<9223372036854775808)→zJ n:=λh=>⟨h.1,h.2.1⟩
 refine⟨⟨s k1,s k2,λj hj=>?_⟩,by simp[CellT.flat,bi]⟩
 match j,hj with
 |0,_=>exact s k3
 |1,_=>exact s k4
 |2,_=>exact s k5
 |3,_=>exact s k6
 |4,_=>exact s k7
theorem tB{v:ViewT}{bs r:List UInt8}(h:mK bs=some (v,r)):((0≤v.epoch∧v.epoch<9223372036854775808)∧(0≤v.members∧v.members<32)∧∀(i:Nat) (hi:i<5),0≤v.heirs[i]∧v.heirs[i]<6)∧bs=bi v.flat++r:=by
 obtain⟨i,_,h1,h⟩:=bK h;obtain⟨o,_,h2,h⟩:=bK h;obtain⟨a,_,h3,h⟩:=bK h;obtain⟨b,_,h4,h⟩:=bK h;obtain⟨d,_,h5,h⟩:=bK h;obtain⟨e,_,h6,h⟩:=bK h;obtain⟨f,_,h7,h⟩:=bK h;obtain⟨rfl,rfl⟩:=ie h;obtain⟨k1,k1',rfl⟩:=lh h1;obtain⟨k2,rfl⟩:=dr h2;obtain⟨k3,rfl⟩:=dr h3;obtain⟨k4,rfl⟩:=dr h4;obtain⟨k5,rfl⟩:=dr h5;obtain⟨k6,rfl⟩:=dr h6;obtain⟨k7,rfl⟩:=dr h7;refine⟨⟨⟨k1,k1'⟩,⟨k2.1,k2.2.1⟩,λj hj=>?_⟩,by simp[ViewT.flat,bi]⟩
 match j,hj with
 |0,_=>exact⟨k3.1,k3.2.1⟩
 |1,_=>exact⟨k4.1,k4.2.1⟩
 |2,_=>exact⟨k5.1,k5.2.1⟩
 |3,_=>exact⟨k6.1,k6.2.1⟩
 |4,_=>exact⟨k7.1,k7.2.1⟩
theorem uX{c:ChangeT}{bs r:List UInt8}(h:lv bs=some (c,r)):((0≤c.kind∧c.kind<2)∧(0≤c.who∧c.who<5)∧(0≤c.heir∧c.heir<5))∧bs=bi c.flat++r:=by
 obtain⟨a,_,h1,h⟩:=bK h;obtain⟨b,_,h2,h⟩:=bK h;obtain⟨d,_,h3,h⟩:=bK h;obtain⟨rfl,rfl⟩:=ie h;obtain⟨k1,rfl⟩:=dr h1;obtain⟨k2,rfl⟩:=dr h2;obtain⟨k3,rfl⟩:=dr h3;exact⟨⟨⟨k1.1,k1.2.1⟩,⟨k2.1,k2.2.1⟩,⟨k3.1,k3.2.1⟩⟩,by simp[ChangeT.flat,bi]⟩
theorem qq{b:BallotT}{bs r:List UInt8}(h:j9 bs=some (b,r)):((0≤b.round∧b.round<9223372036854775808)∧(0≤b.who∧b.who<5))∧bs=bi b.flat++r:=by
 obtain⟨a,_,h1,h⟩:=bK h;obtain⟨d,_,h2,h⟩:=bK h;obtain⟨rfl,rfl⟩:=ie h;obtain⟨k1,k1',rfl⟩:=lh h1;obtain⟨k2,rfl⟩:=dr h2;exact⟨⟨⟨k1,k1'⟩,⟨k2.1,k2.2.1⟩⟩,by simp[BallotT.flat,bi]⟩
theorem xM: ∀(m k:Nat) (x y:RowT) (bs r:List UInt8),m=4-k→k≤4→m9 m k x bs=some (y,r)→
 (y.version=x.version∧y.heir=x.heir∧y.left=x.left)∧(∀j (h:j<4),j<k→y.cells[j]=x.cells[j])∧(∀j (h:j<4),k≤j→TameC y.cells[j])∧bs=bi (bR (y.cells.toList.drop k))++r
 |0,k,x,y,bs,r,hm,hk,h=>by
  obtain⟨rfl,rfl⟩:=ie h;obtain rfl:k=4:=by omega
  exact⟨⟨rfl,rfl,rfl⟩,λ_ _ _=>rfl,λj h h'=>by omega,by rw[e7 (by simp)];rfl⟩
 |m+1,k,x,y,bs,r,hm,hk,h=>by
  have hk4:k<4:=by omega
  obtain⟨c,r',h1,h2⟩:=bK h;obtain⟨k1,rfl⟩:=zB h1;rw[dif_pos hk4]at h2;obtain⟨i1,i2,i3,rfl⟩:=xM m (k+1) _ y r' r (by omega) (by omega) h2;have e:y.cells[k]=c:=by rw[i2 k hk4 (by omega)];simp
  refine⟨i1,λj h hj=>by rw[i2 j h (by omega)];simp[Vector.getElem_set,show k≠j by omega],λj h hj=>?_,?_⟩
  · by_cases q:j=k
    · subst q;rw[e];exact k1
    · exact i3 j h (by omega)
  · rw[oX (l:=y.cells.toList) (k:=k) (by simpa using hk4),Vector.getElem_toList,e,aS]
theorem zl{i:Nat}(hi:i<5): ∀(m k:Nat) (x y:RowT) (bs r:List UInt8),m=4-k→k≤4→qe m i k x bs=some (y,r)→
 (y.version=x.version∧y.heir=x.heir∧y.cells=x.cells)∧(∀j (h:j<5),j≠i→y.left[j]=x.left[j])∧(∀j (h:j<4),j<k→y.left[i][j]=x.left[i][j])∧(∀j (h:j<4),k≤j→TameC y.left[i][j])∧bs=bi (bR (y.left[i].toList.drop k))++r
 |0,k,x,y,bs,r,hm,hk,h=>by
  obtain⟨rfl,rfl⟩:=ie h;obtain rfl:k=4:=by omega
  exact⟨⟨rfl,rfl,rfl⟩,λ_ _ _=>rfl,λ_ _ _=>rfl,λj h h'=>by omega,by rw[e7 (by simp)];rfl⟩
 |m+1,k,x,y,bs,r,hm,hk,h=>by
  have hk4:k<4:=by omega
  obtain⟨c,r',h1,h2⟩:=bK h;obtain⟨k1,rfl⟩:=zB h1;rw[dif_pos ⟨hi,hk4⟩]at h2;obtain⟨i1,i2,i3,i4,rfl⟩:=zl hi m (k+1) _ y r' r (by omega) (by omega) h2;have e:y.left[i][k]=c:=by rw[i3 k hk4 (by omega)];simp
  refine⟨i1,λj h hj=>by rw[i2 j h hj];simp[Vector.getElem_set,Ne.symm hj],λj h hj=>by rw[i3 j h (by omega)];simp[Vector.getElem_set,show k≠j by omega],λj h hj=>?_,?_⟩
  · by_cases q:j=k
    · subst q;rw[e];exact k1
    · exact i4 j h (by omega)
  · rw[oX (l:=y.left[i].toList) (k:=k) (by simpa using hk4),Vector.getElem_toList,e,aS]
theorem tC:TameC CellT.zero:=by rw[←DR];exact Ik _
theorem rO: ∀(m i:Nat) (x y:RowT) (bs r:List UInt8),m=5-i→i≤5→(∀j (h:j<5),i≤j→x.left[j]=RowT.zero.left[0])→jh m i x bs=some (y,r)→
 (y.version=x.version∧y.cells=x.cells)∧(∀j (h:j<5),j<i→y.heir[j]=x.heir[j]∧y.left[j]=x.left[j])∧
 (∀j (h:j<5),i≤j→(0≤y.heir[j]∧y.heir[j]<9223372036854775808)∧(∀k (hk:k<4),TameC y.left[j][k])∧(y.heir[j]=(0:Int)→y.left[j]=RowT.zero.left[0]))∧bs=gj y m i++r
 |0,i,x,y,bs,r,hm,hi,hz,h=>by
  obtain⟨rfl,rfl⟩:=ie h;obtain rfl:i=5:=by omega
  exact⟨⟨rfl,rfl⟩,λ_ _ _=>⟨rfl,rfl⟩,λj h h'=>by omega,rfl⟩
 |m+1,i,x,y,bs,r,hm,hi,hz,h=>by
  have hi5:i<5:=by omega
  have zt: ∀k (hk:k<4),TameC (RowT.zero.left[0])[k]:=λk hk=>by
   match k,hk with
   |0,_|1,_|2,_|3,_=>exact tC
  obtain⟨n,r',h1,h2⟩:=bK h;obtain⟨k1,k2,rfl⟩:=lh h1;simp only[dif_pos hi5]at h2;split at h2
  · rename_i hn
    obtain⟨z,r2,h3,h4⟩:=bK h2;obtain⟨⟨i1,i2,i3⟩,i4,_,i5,rfl⟩:=zl hi5 4 0 _ z r' r2 rfl (by omega) h3;obtain⟨⟨j1,j2⟩,j3,j4,rfl⟩:=rO m (i+1) z y r2 r (by omega) (by omega) (λj h hj=>by rw[i4 j h (by omega)];exact hz j h (by omega)) h4;have e1:y.heir[i]=n:=by rw[(j3 i hi5 (by omega)).1,show z.heir[i]=(x.heir.set i n)[i]from by rw[i2]];simp
    have e2:y.left[i]=z.left[i]:=(j3 i hi5 (by omega)).2;refine⟨⟨by rw[j1,i1],by rw[j2,i3]⟩,λj h hj=>⟨?_,?_⟩,λj h hj=>?_,?_⟩
    · rw[(j3 j h (by omega)).1,show z.heir[j]=(x.heir.set i n)[j]from by rw[i2]];simp[Vector.getElem_set,show i≠j by omega]
    · rw[(j3 j h (by omega)).2,i4 j h (by omega)]
    · by_cases q:j=i
      · subst q
        rw[e1,e2];exact⟨⟨k1,k2⟩,λk hk=>i5 k hk (by omega),λe=>by omega⟩
      · exact j4 j h (by omega)
    · simp only[gj,dif_pos hi5,e1,if_pos hn,e2,aS,aV]
  · rename_i hn
    obtain⟨⟨j1,j2⟩,j3,j4,rfl⟩:=rO m (i+1) {x with heir:=x.heir.set i n} y r' r (by omega) (by omega) (λj h hj=>hz j h (by omega)) h2;have e1:y.heir[i]=n:=by rw[(j3 i hi5 (by omega)).1];simp
    have e2:y.left[i]=x.left[i]:=(j3 i hi5 (by omega)).2;refine⟨⟨j1,j2⟩,λj h hj=>⟨?_,?_⟩,λj h hj=>?_,?_⟩
    · rw[(j3 j h (by omega)).1];simp[Vector.getElem_set,show i≠j by omega]
    · rw[(j3 j h (by omega)).2]
    · by_cases q:j=i
      · subst q
        rw[e1,e2,hz j hi5 (aK _)];exact⟨⟨k1,k2⟩,zt,λ_=>rfl⟩
      · exact j4 j h (by omega)
    · simp only[gj,dif_pos hi5,e1,if_neg hn,bI,aP,aS]
theorem wK{x:RowT}{bs r:List UInt8}(h:vg bs=some (x,r)):TameR x∧bs=il x++r:=by
 obtain⟨n,r1,h1,h'⟩:=bK h;clear h;obtain⟨k1,k2,rfl⟩:=lh h1;replace h':pb (m9 4 0 {RowT.zero with version:=n}) (jh 5 0) r1=some (x,r):=h';obtain⟨y,r2,h2,h3⟩:=bK h';clear h';obtain⟨⟨i1,i2,i3⟩,_,i4,rfl⟩:=xM 4 0 _ y r1 r2 rfl (by omega) h2
 obtain⟨⟨j1,j2⟩,_,j3,rfl⟩:=rO 5 0 y x r2 r rfl (by omega) (λj h _=>by
  rw[show y.left[j]=RowT.zero.left[j]from by rw[i3]]
  match j,h with
  |0,_|1,_|2,_|3,_|4,_=>rfl) h3
 have ev:x.version=n:=by rw[j1,i1]
 refine⟨⟨by rw[ev];exact⟨k1,k2⟩,λk hk=>by rw[show x.cells[k]=y.cells[k]from by rw[j2]];exact i4 k hk (by omega),λi hi=>(j3 i hi (by omega)).1,λi k hi hk=>(j3 i hi (by omega)).2.1 k hk,λi hi=>(j3 i hi (by omega)).2.2⟩,?_⟩;rw[il,ev,j2,aV];simp only[aS]
end Codec
end

section
namespace Api
open Go Leg Codec
def H3(n:Int):Bool:=decide (0≤n∧n≤1099511627776)
def uq:List Int→Int→Int×Int
 | [],s=>(s,0)
 |n::l,s=>if H3 n then(if n>1099511627776-s then(0,6)else uq l (s+n))else(0,5)
def Nh(c:CellT):Bool:=H3 c.inn&&H3 c.out&&decide ((uq c.given.toList 0).2=0)
def Ek(v:Vector CellT 4):Bool:=decide (∀k (h:k<4),Nh v[k]=true)
def EK(h:Int)(l:Vector CellT 4):Bool:=decide (0≤h)&&Ek l&&decide (h=0→bR l.toList=bR RowT.zero.left[0].toList)
def gY(x:RowT):Bool:=decide (0≤x.version)&&Ek x.cells&&decide (∀j (h:j<5),EK x.heir[j] x.left[j]=true)
def cH(w:Int):Bool:=decide (0≤w∧w<5)
def HO(m w:Int):Bool:=decide ((m.fdiv (2^min w.toNat IntKind.i64.bits))%2=1)
def iO(v:ViewT)(w:Int):Bool:=cH w&&HO v.members w
def Mz(v:ViewT)(h:Int)(i:Nat):Bool:=decide (h=0)||(iO v (h-1)&& !iO v (i:Int))
def kM(v:ViewT):Bool:=decide (1≤v.epoch∧1≤v.members∧v.members<32)&& @decide (∀(j:Nat) (h:j<5),Mz v (v.heirs[j]'h) j=true) (Nat.decidableBallLT 5 λj h=>Mz v (v.heirs[j]'h) j=true)
def firstV:ViewT:=⟨1,7, #v[0,0,0,0,0]⟩
def jE(v:ViewT)(w:Int):Option Int:=if h:0≤w∧w<5 then(if v.heirs[w.toNat]<1 then none else some (v.heirs[w.toNat]-1))else none
def tZ(c:ChangeT)(i:Nat)(h:Int):Int:=if(i:Int)=c.who∨h=c.who+1 then c.heir+1 else h
def Rng(v:ViewT):Prop:=∀(i:Nat) (h:i<5),0≤v.heirs[i]∧v.heirs[i]≤5
def rM(v:ViewT)(c:ChangeT):Vector Int 5:=v.heirs.mapIdx (tZ c)
def dL(v:ViewT)(c:ChangeT):ViewT×Int:=
 if !cH c.who|| !cH c.heir then(ViewT.zero,5)
 else if c.kind=0 then
  if(jE v c.who).isSome||iO v c.who then(ViewT.zero,5)
  else(⟨IntKind.i64.wrap (v.epoch+1),iF .i64 v.members (2^c.who.toNat),v.heirs⟩,0)
 else if c.kind=1 then
  if !iO v c.who|| !iO v c.heir||decide (c.heir=c.who)then(ViewT.zero,5)
  else(⟨IntKind.i64.wrap (v.epoch+1),mA .i64 v.members (2^c.who.toNat),rM v c⟩,0)
 else(ViewT.zero,5)
theorem xU{l:List Int}{k:Nat}{s:Int}(h:k<l.length):uq (l.drop k) s=if H3 (l.getD k 0)then(if l.getD k 0>1099511627776-s then(0,6)else uq (l.drop (k+1)) (s+l.getD k 0))else(0,5):=by
 rw[dy h,uq];simp[List.getD_eq_getElem?_getD,h]
theorem Lg(x:Int):qR .i64 x 1=x%2:=mask (k:=1) (by decide) x
theorem Fz{w:Int}(h:0≤w∧w<5):IntKind.i64.wrap (1*2^min w.toNat IntKind.i64.bits)=2^w.toNat:=by
 obtain⟨m,rfl⟩:=Int.eq_ofNat_of_zero_le h.1;have:m<5:=by omega
 match m,this with
 |0,_|1,_|2,_|3,_|4,_=>rfl
end Api
namespace Leg
section
open Go
variable {P:Program} {n:Nat} {D:List Deferred} {L:List (Nat×Value)} {S:World→Prop} {o:Oper}
theorem eY{l:List Int}{n:Nat}(h:(Api.ints l).length=n):l.length=n:=by rwa [Api.ints_length]at h
theorem PV.neqAgg{t t':TypeId}{x y:Operand}{a b:List Int}{m c:Nat}(hg:P.eqGuardType P.depth t=false)(hk:P.keyTypeAt m t=true)(hm:Nat.ble m 10000=true)(hF:qh P m t=some c)(ha:a.length=c)(hb:b.length=c)
 (hf:(Api.agI a).formed P t=true∧(Api.agI b).formed P t=true) (wa:WF a) (wb:WF b)
 (ho:o.op= .binOp .neq t x y t') (hx:cA L x=some (Api.agI a)) (hy:cA L y=some (Api.agI b)):PV P n D L S o (.bool (decide (a≠b))):=
 fM ho hx hy λw=>by
  have hm':m≤10000:=fm hm;obtain⟨r,hr,hi⟩:=run_equalIn_deep (10000-m) m t hk w m m (Api.agI a) (Api.agI b) (qQ a) (qQ b) hf.1 hf.2 (by simpa [Api.agI,Value.cells]using oV m t c hF a ha wa) (by simpa [Api.agI,Value.cells]using oV m t c hF b hb wb);rw[show 10000-m+m=10000 by omega]at hr
  have e:r=decide (a=b):=by
   rw[Ng,hi,decide_eq_true_iff];constructor
   · intro h
     have hj:Function.Injective (Lit.int IntKind.i64):=λu v h=>by injection h
     exact(List.map_inj_right λu v h=>hj h).1 h
   · rintro rfl;rfl
  subst e;simp only[Api.agI]at hr ⊢;rw[Sem.run_bind,run_eqGuard_agg w .neq t x y _ _ hg,Result.andThen_ok,run_neq_struct,hr];simp
abbrev Lp:= @PV.neqAgg
theorem TE.retCT{w0:World}{F:Hl}{H H':List HP}{fn:Func}{post:Ending→List HP→Prop}{t t' ty e m b:Nat}{cs:List Value}{z:Nat×Nat}{dt:TypeDesc}{v':Value}(hr:fn.results=#[.cell t ty, .tmp t'])(he:lk L t=some (.pointer (some ⟨b,0,none⟩)))(e':lk L t'=some v')
 (hu:P.underlying ty=some dt) (hp:ei dt=false) (hm:(P.info? ty).map (·.size)=some m) (hR:Rd (Sat H F) b (.cells cs.toArray e z)) (hl:cs.length=m) (hk: ∀h,bD H h→bD H' h)
 (h:post (.returned (.tuple #[.agg cs.toArray,v'])) H'):TE w0 F n (bodyPost P fn (jG post w0 F)) .ret [] L H:=λa w f s q=>by
 have h1:a.tmps.getD t undef= .pointer (some ⟨b,0,none⟩):=f.eval (x:= .tmp t) he;have h2:a.tmps.getD t' undef=v':=f.eval (x:= .tmp t') e'
 have h3:(results fn a.tmps).run P w= .ok (.tuple #[.agg cs.toArray,v']) w:=by
  have h1':a.tmps[t]?.getD undef= .pointer (some ⟨b,0,none⟩):=by simpa using h1
  have h2':a.tmps[t']?.getD undef=v':=by simpa using h2
  simp[results,hr,h1',h2',asAddr,run_loadVar_row w b e ty cs.toArray z dt (hR w q) hu (by cases dt<;>simp[ei]at hp ⊢) (by simp[hm,hl])]
 exact bodyPost_ret h3 f.2.1 ⟨s,H',q.mono hk,h⟩
abbrev lR:= @TE.retCT
theorem PV.andNot{t t':TypeId}{x y:Operand}{k:IntKind}{a b r:Int}(ho:o.op= .binOp .andNot t x y t')(hx:cA L x=some (.int k a))(hy:cA L y=some (.int k b))(hr:mA k a b=r):PV P n D L S o (.int k r):=
 fM ho hx hy (λw=>by rw[fH];subst hr;simp[binOp,Op.intBits,mA])
end
open Go
variable {P:Program} {w0:World} {F:Hl} {n:Nat} {ops:Array Oper} {Q:QQ} {D:List Deferred} {L:List (Nat×Value)} {H:List HP} {d:Nat} {o:Oper} {l:List Oper}
theorem RT{fn:Func}{post:Ending→List HP→Prop}{t t' ty e m b:Nat}{cs:List Value}{dt:TypeDesc}{v':Value}(k:Nat)(is:List Nat)(hu:P.underlying ty=some dt)(hm:(P.info? ty).map (·.size)=some m)(hl:cs.length=m)(h:post (.returned (.tuple #[.agg cs.toArray,v'])) ((BY H is).take is.length))(hr:fn.results=#[.cell t ty, .tmp t']:=by exact rfl)(he:lk L t=some (.pointer (some ⟨b,0,none⟩)):=by exact rfl)(e':lk L t'=some v':=by exact rfl)(hp:ei dt=false:=by exact rfl)(hk:Nat.blt k H.length=true:=by exact rfl)(hH:H.getD k (λ_=>True)=ah b cs e:=by exact rfl)(hs:Kz H.length is=true:=by exact rfl):TE w0 F n (bodyPost P fn (jG post w0 F)) .ret [] L H:=lR hr he e' hu hp hm (dR k hk hH) hl (λ_ s=>ak is hs s) h
end Leg
end

section
namespace Go.Proofs.YtfocodjhmkokpaaGreatDoor
open Go Leg Codec Api
theorem mixed:Tryz.prog.follows .mixedOrders=true:=by kernel_rfl
abbrev ij:List PanicEntry:=[{v:= .iface 221 (.agg #[]),recovered:=false}]
theorem Hc(rb b off cap:Nat)(bs:List UInt8)(cs:List Value)(T:TypeId)(z:Nat×Nat)(hcap:bs.length≤cap)(hm:cap≤9223372036854775807)(hb: ∀j,j<bs.length→cs[off+j]?=some (.int .u8 ((bs.getD j 0).toNat:Nat))):
 DT 143 #[(.pointer (some ⟨rb,0,none⟩))] (λF=>F b=some (.cells cs.toArray T z)) [ah rb [(.slice (some ⟨b,off,none⟩) (bs.length) (cap))] 219] (vz (λx H=>∃n r v',x= .int .i64 ((n:Nat):Int)∧H=[ah rb [v'] 219]∧kp 0 0 bs=some (n,r)∧Tail (.slice (some ⟨b,off,none⟩) bs.length cap) bs v' r) (λc H=>c=ij∧H=[ah rb [(.slice (some ⟨b,off,none⟩) bs.length cap)] 219]∧kp 0 0 bs=none)):=by
 refine BD 48 Tryz.func143 rfl rfl rfl λw0 F hF=>sr λ_ J1=>PS ?_
 refine nx J1 (sr λ_ J2=>PS ?_);refine nx J2 (ab λ_ J3=>sr λ_ J4=>P2 ?_);refine FA 0 Bc kH ?_;refine LA 0 fB ?_;refine tp (qw rfl fB rfl) ?_;refine PS ?_;refine nx J4 (au ?_)
 refine bu (α:=(Nat)×(Nat)) (λ⟨k,a⟩=>k≤bs.length∧k≤9∧a<2^ (7*k)∧kp 0 0 bs=kp k a (bs.drop k)) (λ⟨k,a⟩=>[(0,(.pointer (some ⟨rb,0,none⟩))),(3,(.int .i64 ((a:Nat)))),(9,(.slice (some ⟨b,off,none⟩) (bs.length) (cap))),(10,(.int .i64 (((bs.length:Nat):Int)))),(11,(.int .i64 ((k:Nat))))]) (λ⟨k,a⟩=>[ah rb [(.slice (some ⟨b,off,none⟩) (bs.length) (cap))] 219]) (λ⟨k,a⟩=>bs.length-k) (0,0)
  ⟨by omega,by omega,by omega,rfl⟩ SB
  (λ_ s=>s) (λ⟨k,a⟩ hinv=>?_)
 obtain⟨hk,hk9,ha,hp⟩:=hinv;have hc:(bs.getD k 0).toNat<256:=(bs.getD k 0).toNat_lt;refine sr λ_ J5=>PS ?_
 refine ao ?_ ?_<;>intro h12;refine nx J5 (ab λ_ J6=>CY (qx J6 (ab λ_ J7=>au (sr λ_ J8=>PS ?_))));refine tp (jx (r:=off+k) rfl fB jF rfl rfl (by first|omega|decide) (by first|omega|decide) (by omega)) ?_;refine tp (eZ (v:=(.int .u8 (((bs.getD k 0).toNat:Nat)))) rfl Y5 rfl rfl (Rd.ro hF) (hb k (by omega))) ?_;refine P2 ?_;refine nx J8 (ab λ_ J9=>sr λ_ J10=>P2 ?_);refine ao ?_ ?_<;>intro h17;refine nx J10 (CY (aY (aC (TE.miss (by decide) (aC (aC (bo (ac J3 (ad (BV #[] ?_))))))))));refine tp (pB rfl HV rfl rfl) ?_;refine HW (aa rfl) rfl rfl (aU ?_);exact⟨rfl,rfl,by rw[hp,oi bs k (by omega)];simp only[kp];rw[if_pos (by omega)]⟩;refine nx J10 (CN (qx J9 (sr λ_ J11=>P2 ?_)));refine tp (pD (r:=(((bs.getD k 0).toNat%128:Nat):Int)) rfl rfl rfl (M6 _ hc)) ?_;refine tp (cE rfl Y5 Y3 rfl (bF (by omega) (by omega))) ?_;refine PS ?_;refine tp (Lq rfl rfl rfl (bF (by omega) (by omega))) ?_;refine tp (yJ (r:=(((bs.getD k 0).toNat%128*2^ (7*k):Nat):Int)) rfl rfl rfl (by omega) (Pg _ k (by omega) (by omega))) ?_;refine tp (JS (r:=((a+(bs.getD k 0).toNat%128*2^ (7*k):Nat):Int)) rfl rfl rfl (My a _ k ha (by omega) (by omega))) ?_;refine PS ?_;refine nx J11 (ab λ_ J12=>sr λ_ J13=>P2 ?_);refine ao ?_ ?_<;>intro h27;refine nx J13 (CY (aY (aC (bo (ac J7 (ad (AD ?_)))))));refine PS ?_;refine aq ?_
 exact aJ ((k+1,a+(bs.getD k 0).toNat%128*2^ (7*k)):(Nat)×(Nat)) ⟨by omega,by omega,OA a _ k ha (by omega),by rw[hp,oi bs k (by omega)];simp only[kp];rw[if_neg (by omega),if_pos (by omega)]⟩ (by show _-_<_-_;omega)
  SB
  (λ_ s=>s)
 refine nx J13 (CN (qx J12 (ab λ_ J14=>sr λ_ J15=>P2 ?_)));refine ao ?_ ?_<;>intro h29;refine P3 ?_;refine ao ?_ ?_<;>intro h32;refine PS ?_;refine nx J15 (CY (aY (aC (TE.miss (by decide) (aC (aC (bo (ac J3 (ad (BV #[] ?_))))))))));refine tp (pB rfl HV rfl rfl) ?_;refine HW (aa rfl) rfl rfl (aU ?_);exact⟨rfl,rfl,by rw[hp,oi bs k (by omega)];simp only[kp];rw[if_neg (by omega),if_neg (by omega),if_pos (by omega)]⟩;refine PS ?_;refine nx J15 (CN (qx J14 (sr λ_ J16=>P3 ?_)));refine FA 0 Bc kH ?_;refine LA 0 fB ?_;refine PS ?_;refine AD ?_;refine tp (yI (k:=k+1) rfl fB jF rfl rfl (by omega) (by omega) rfl) ?_;refine PS ?_;refine FA 0 Bc kH ?_;refine S0 0 kH ?_;refine nx J16 (sr λ_ J17=>P2 ?_);refine nx J17 (ai (aH (ae (ae (aH (ae (av rfl rfl ?_)))))));exact⟨_,_,_,rfl,rfl,by rw[hp,oi bs k (by omega)];simp only[kp];rw[if_neg (by omega),if_neg (by omega),if_neg (by omega)],Tail.cut _ (by omega)⟩;refine PS ?_;refine UF ?_;refine UF ?_;refine PS ?_;refine nx J15 (CN (qx J14 (sr λ_ J18=>P3 ?_)));refine FA 0 Bc kH ?_;refine LA 0 fB ?_;refine PS ?_;refine AD ?_;refine tp (yI (k:=k+1) rfl fB jF rfl rfl (by omega) (by omega) rfl) ?_;refine PS ?_;refine FA 0 Bc kH ?_;refine S0 0 kH ?_;refine nx J18 (sr λ_ J19=>P2 ?_);refine nx J19 (ai (aH (ae (ae (aH (ae (av rfl rfl ?_)))))))
 exact⟨_,_,_,rfl,rfl,by rw[hp,oi bs k (by omega)];simp only[kp];rw[if_neg (by omega),if_neg (by omega),if_neg (by omega)],Tail.cut _ (by omega)⟩;refine nx J5 (ab λ_ J20=>CN (aY (aC (aC (bo (ac J3 (ad (BV #[] ?_))))))));refine tp (pB rfl HV rfl rfl) ?_;refine HW (aa rfl) rfl rfl (aU ?_);exact⟨rfl,rfl,by rw[hp,e7 (by omega)];rfl⟩
theorem KA(rb:Nat):
 DT 143 #[(.pointer (some ⟨rb,0,none⟩))] T0 [ah rb [(.slice none 0 0)] 219] (vz (λx H=>∃n r v',x= .int .i64 ((n:Nat):Int)∧H=[ah rb [v'] 219]∧kp 0 0 []=some (n,r)∧Tail (.slice none 0 0) [] v' r) (λc H=>c=ij∧H=[ah rb [(.slice none 0 0)] 219]∧kp 0 0 []=none)):=by
 refine BD 48 Tryz.func143 rfl rfl rfl λw0 F hF=>sr λ_ J1=>PS ?_
 refine nx J1 (sr λ_ J2=>PS ?_);refine nx J2 (ab λ_ J3=>sr λ_ J4=>P2 ?_);refine FA 0 Bc kH ?_;refine LA 0 fB ?_;refine tp (qw rfl fB rfl) ?_;refine PS ?_;refine nx J4 (au ?_)
 refine bu (α:=Unit) (λ_u=>True) (λ_u=>[(0,(.pointer (some ⟨rb,0,none⟩))),(3,(.int .i64 0)),(9,(.slice none 0 0)),(10,(.int .i64 0)),(11,(.int .i64 0))]) (λ_u=>[ah rb [(.slice none 0 0)] 219]) (λ_u=>0) ()
  trivial SB
  (λ_ s=>s) (λ_u hinv=>?_)
 obtain _:=hinv;refine sr λ_ J5=>PS ?_
 refine nx J5 (ab λ_ J6=>CN (aY (aC (aC (bo (ac J3 (ad (BV #[] ?_))))))));refine tp (pB rfl HV rfl rfl) ?_;exact HW (aa rfl) rfl rfl (aU ⟨rfl,rfl,rfl⟩)
theorem jc(rb:Nat)(v:Value)(bs:List UInt8):DT 143 #[(.pointer (some ⟨rb,0,none⟩))] (IsB v bs) [ah rb [v] 219] (nK 219 ij (λn=> .int .i64 n) nj v bs rb):=by
 have fin: ∀e H,(vz (λx H=>∃n r v',x= .int .i64 ((n:Nat):Int)∧H=[ah rb [v'] 219]∧kp 0 0 bs=some (n,r)∧Tail v bs v' r) (λc H=>c=ij∧H=[ah rb [v] 219]∧kp 0 0 bs=none)) e H→nK 219 ij (λn=> .int .i64 n) nj v bs rb e H:=by
  intro e H h;cases e with
  |returned x=>obtain⟨n,r,v',h1,h2,h3,h4⟩:=h;exact⟨_,r,v',h1,h2,Hd h3,h4⟩
  |panicked c=>obtain⟨h1,h2,h3⟩:=h;exact⟨_,h1,h2,He h3⟩
  |outgrown=>exact h
 refine Leg.Does.of λF hF=>?_
 rcases id hF with⟨rfl,rfl⟩| ⟨b,off,cap,cs,T,z,rfl,h1,h2,h3,h4⟩
 · exact⟨_,trivial,(KA rb).mono fin⟩
 · exact⟨_,h3,(Hc rb b off cap bs cs T z h1 h2 h4).mono fin⟩
theorem cK(rb:Nat)(v:Value)(bs:List UInt8)(lim:Int):
 DT 141 #[(.pointer (some ⟨rb,0,none⟩)),(.int .i64 (lim))] (IsB v bs) [ah rb [v] 219] (nK 219 ij (λn=> .int .i64 n) (fg lim) v bs rb):=by
 refine BD 14 Tryz.func141 rfl rfl rfl λw0 F hF=>sr λ_ J1=>PS ?_
 refine nx J1 (sr λ_ J2=>PS ?_);refine CP qb (jc rb v bs) ID (λ_ d _=>(hF).more d) (λcP HP hP=>?_) (λvR HR hR=>?_);obtain⟨vP,rfl,rfl,hpP⟩:=hP;refine ay (WK [0] (aU ?_));exact⟨_,rfl,rfl,by simp[fg,bU hpP]⟩;obtain⟨a1,r1,v1,rfl,rfl,hp1,ht1⟩:=hR;have hf1:=ht1 _ hF;refine PS ?_;refine nx J2 (ab λ_ J3=>sr λ_ J4=>P3 ?_);refine ao ?_ ?_<;>intro h10;refine nx J4 (CY (ad (BV #[] ?_)));refine tp (pB rfl HV rfl rfl) ?_;refine HW (aa rfl) rfl rfl (ay (WK [0] (aU ?_)));exact⟨_,rfl,rfl,by simp[fg,aD hp1,h10,pf]⟩;refine nx J4 (CN (qx J3 (sr λ_ J5=>P2 ?_)));refine nx J5 (ai (WK [0] (av rfl rfl ?_)));exact⟨_,_,_,rfl,rfl,by rw[fg,aD hp1,if_neg h10];rfl,ht1⟩
theorem wQ(rb:Nat)(v:Value)(bs:List UInt8):
 DT 170 #[(.pointer (some ⟨rb,0,none⟩))] (IsB v bs) [ah rb [v] 219] (nK 219 ij CellT.val mm v bs rb):=by
 refine BD 21 Tryz.func170 rfl rfl rfl λw0 F hF=>sr λ_ J1=>XA JW λb2=>?_
 refine nx J1 (sr λ_ J2=>XA JW λb3=>?_);refine nx J2 (sr λ_ J3=>PS ?_);refine CP jd (cK rb v bs (1099511627777)) (SM [2]) (λ_ d _=>(hF).more d) (λcP HP hP=>?_) (λvR HR hR=>?_);obtain⟨vP,rfl,rfl,hpP⟩:=hP;refine ay (WK [0] (aU ?_));exact⟨_,rfl,rfl,by simp[mm,pr,bU hpP]⟩;obtain⟨a1,r1,v1,rfl,rfl,hp1,ht1⟩:=hR;have hf1:=ht1 _ hF;refine FA 0 mH aR ?_;refine S0 1 aR ?_;refine nx J3 (sr λ_ J4=>PS ?_);refine CP jd (cK rb v1 r1 (1099511627777)) ID (λ_ d _=>(hf1).more d) (λcP HP hP=>?_) (λvR HR hR=>?_);obtain⟨vP,rfl,rfl,hpP⟩:=hP;refine ay (WK [0] (aU ?_));exact⟨_,rfl,rfl,by simp[mm,pr,aD hp1,bU hpP]⟩;obtain⟨a2,r2,v2,rfl,rfl,hp2,ht2⟩:=hR;have hf2:=ht2 _ hf1;refine FA 1 mH aR ?_;refine S0 1 aR ?_;refine nx J4 (ab λ_ J5=>sr λ_ J6=>PS ?_);refine nx J6 (au (sh 5 (sr λ_ J7=>PS ?_)));refine nx J7 (ab λ_ J8=>CY (qx J8 (ab λ_ J9=>au (sr λ_ J10=>P2 ?_))));refine nx J10 (ad (P2 ?_));refine CP jd (cK rb v2 r2 (1099511627777)) ID (λ_ d _=>(hf2).more d) (λcP HP hP=>?_) (λvR HR hR=>?_);obtain⟨vP,rfl,rfl,hpP⟩:=hP;refine aO (ay (ay (aO (ay (WK [0] (aU ?_))))));exact⟨_,rfl,rfl,by simp[mm,pr,aD hp1,aD hp2,bU hpP]⟩;obtain⟨a3,r3,v3,rfl,rfl,hp3,ht3⟩:=hR;have hf3:=ht3 _ hf2;refine FA 2 mH eV ?_;refine IX 2 jK aR ?_;refine S0 1 aR ?_;refine aq (ag (ac J9 (ad (tp (cq (r:=1) rfl rfl rfl (by decide)) ?_))));refine PS ?_
 refine aq (ek (sr λ_ J11=>PS ?_));refine nx J11 (ab λ_ J12=>CY (qx J12 (ab λ_ J13=>au (sr λ_ J14=>P2 ?_))));refine nx J14 (ad (P2 ?_));refine CP jd (cK rb v3 r3 (1099511627777)) ID (λ_ d _=>(hf3).more d) (λcP HP hP=>?_) (λvR HR hR=>?_);obtain⟨vP,rfl,rfl,hpP⟩:=hP;refine aO (ay (ay (aO (ay (WK [0] (aU ?_))))));exact⟨_,rfl,rfl,by simp[mm,pr,aD hp1,aD hp2,aD hp3,bU hpP]⟩;obtain⟨a4,r4,v4,rfl,rfl,hp4,ht4⟩:=hR;have hf4:=ht4 _ hf3;refine FA 2 mH eV ?_;refine IX 3 jK aR ?_;refine S0 1 aR ?_;refine aq (ag (ac J13 (ad (tp (cq (r:=2) rfl rfl rfl (by decide)) ?_))));refine PS ?_;refine aq (ek (sr λ_ J15=>PS ?_));refine nx J15 (ab λ_ J16=>CY (qx J16 (ab λ_ J17=>au (sr λ_ J18=>P2 ?_))));refine nx J18 (ad (P2 ?_));refine CP jd (cK rb v4 r4 (1099511627777)) ID (λ_ d _=>(hf4).more d) (λcP HP hP=>?_) (λvR HR hR=>?_);obtain⟨vP,rfl,rfl,hpP⟩:=hP;refine aO (ay (ay (aO (ay (WK [0] (aU ?_))))));exact⟨_,rfl,rfl,by simp[mm,pr,aD hp1,aD hp2,aD hp3,aD hp4,bU hpP]⟩;obtain⟨a5,r5,v5,rfl,rfl,hp5,ht5⟩:=hR;have hf5:=ht5 _ hf4;refine FA 2 mH eV ?_;refine IX 4 jK aR ?_;refine S0 1 aR ?_;refine aq (ag (ac J17 (ad (tp (cq (r:=3) rfl rfl rfl (by decide)) ?_))));refine PS ?_;refine aq (ek (sr λ_ J19=>PS ?_));refine nx J19 (ab λ_ J20=>CY (qx J20 (ab λ_ J21=>au (sr λ_ J22=>P2 ?_))));refine nx J22 (ad (P2 ?_))
 refine CP jd (cK rb v5 r5 (1099511627777)) ID (λ_ d _=>(hf5).more d) (λcP HP hP=>?_) (λvR HR hR=>?_);obtain⟨vP,rfl,rfl,hpP⟩:=hP;refine aO (ay (ay (aO (ay (WK [0] (aU ?_))))));exact⟨_,rfl,rfl,by simp[mm,pr,aD hp1,aD hp2,aD hp3,aD hp4,aD hp5,bU hpP]⟩;obtain⟨a6,r6,v6,rfl,rfl,hp6,ht6⟩:=hR;have hf6:=ht6 _ hf5;refine FA 2 mH eV ?_;refine IX 5 jK aR ?_;refine S0 1 aR ?_;refine aq (ag (ac J21 (ad (tp (cq (r:=4) rfl rfl rfl (by decide)) ?_))));refine PS ?_;refine aq (ek (sr λ_ J23=>PS ?_));refine nx J23 (ab λ_ J24=>CY (qx J24 (ab λ_ J25=>au (sr λ_ J26=>P2 ?_))));refine nx J26 (ad (P2 ?_));refine CP jd (cK rb v6 r6 (1099511627777)) ID (λ_ d _=>(hf6).more d) (λcP HP hP=>?_) (λvR HR hR=>?_);obtain⟨vP,rfl,rfl,hpP⟩:=hP;refine aO (ay (ay (aO (ay (WK [0] (aU ?_))))));exact⟨_,rfl,rfl,by simp[mm,pr,aD hp1,aD hp2,aD hp3,aD hp4,aD hp5,aD hp6,bU hpP]⟩;obtain⟨a7,r7,v7,rfl,rfl,hp7,ht7⟩:=hR;have hf7:=ht7 _ hf6;refine FA 2 mH eV ?_;refine IX 6 jK aR ?_;refine S0 1 aR ?_;refine aq (ag (ac J25 (ad (tp (cq (r:=5) rfl rfl rfl (by decide)) ?_))));refine PS ?_;refine aq (ek (sr λ_ J27=>PS ?_));refine nx J27 (ab λ_ J28=>CN (aY (aC (aC (bo (ac J5 (sr λ_ J29=>tp (aM (vs:=[(.int .i64 (a1)),(.int .i64 (a2)),(.int .i64 (a3)),(.int .i64 (a4)),(.int .i64 (a5)),(.int .i64 (a6)),(.int .i64 (a7))]) rfl mH rfl fx rfl (RO 1) rfl rfl) ?_)))))))
 refine bP (vs:=[(.int .i64 (a1)),(.int .i64 (a2)),(.int .i64 (a3)),(.int .i64 (a4)),(.int .i64 (a5)),(.int .i64 (a6)),(.int .i64 (a7))]) (i:=2) (aa rfl) rfl rfl rfl rfl rfl fx (by simp[Value.oneCell']) rfl rfl (KR rfl) rfl rfl (nx J29 (ai (RC 2 [0] mH fx rfl ?_)));exact⟨⟨a1,a2, #v[a3,a4,a5,a6,a7]⟩,_,_,rfl,rfl,by simp[mm,pr,aD hp1,aD hp2,aD hp3,aD hp4,aD hp5,aD hp6,aD hp7],(ht1.trans (ht2.trans (ht3.trans (ht4.trans (ht5.trans (ht6.trans ht7))))))⟩
theorem rD(rb:Nat)(v:Value)(bs:List UInt8):
 DT 146 #[(.pointer (some ⟨rb,0,none⟩))] (IsB v bs) [ah rb [v] 219] (nK 219 ij ViewT.val mK v bs rb):=by
 refine BD 21 Tryz.func146 rfl rfl rfl λw0 F hF=>sr λ_ J1=>XA se λb2=>?_
 refine nx J1 (sr λ_ J2=>XA se λb3=>?_);refine nx J2 (sr λ_ J3=>PS ?_);refine CP qb (jc rb v bs) (SM [2]) (λ_ d _=>(hF).more d) (λcP HP hP=>?_) (λvR HR hR=>?_);obtain⟨vP,rfl,rfl,hpP⟩:=hP;refine ay (WK [0] (aU ?_));exact⟨_,rfl,rfl,by simp[mK,pr,bU hpP]⟩;obtain⟨a1,r1,v1,rfl,rfl,hp1,ht1⟩:=hR;have hf1:=ht1 _ hF;refine FA 0 eE aR ?_;refine S0 1 aR ?_;refine nx J3 (sr λ_ J4=>PS ?_);refine CP jd (cK rb v1 r1 (32)) ID (λ_ d _=>(hf1).more d) (λcP HP hP=>?_) (λvR HR hR=>?_);obtain⟨vP,rfl,rfl,hpP⟩:=hP;refine ay (WK [0] (aU ?_));exact⟨_,rfl,rfl,by simp[mK,pr,aD hp1,bU hpP]⟩;obtain⟨a2,r2,v2,rfl,rfl,hp2,ht2⟩:=hR;have hf2:=ht2 _ hf1;refine FA 1 eE aR ?_;refine S0 1 aR ?_;refine nx J4 (ab λ_ J5=>sr λ_ J6=>PS ?_);refine nx J6 (au (sh 5 (sr λ_ J7=>PS ?_)));refine nx J7 (ab λ_ J8=>CY (qx J8 (ab λ_ J9=>au (sr λ_ J10=>P2 ?_))));refine nx J10 (ad (P2 ?_));refine CP jd (cK rb v2 r2 (6)) ID (λ_ d _=>(hf2).more d) (λcP HP hP=>?_) (λvR HR hR=>?_);obtain⟨vP,rfl,rfl,hpP⟩:=hP;refine aO (ay (ay (aO (ay (WK [0] (aU ?_))))));exact⟨_,rfl,rfl,by simp[mK,pr,aD hp1,aD hp2,bU hpP]⟩;obtain⟨a3,r3,v3,rfl,rfl,hp3,ht3⟩:=hR;have hf3:=ht3 _ hf2;refine FA 2 eE eV ?_;refine IX 2 jK aR ?_;refine S0 1 aR ?_;refine aq (ag (ac J9 (ad (tp (cq (r:=1) rfl rfl rfl (by decide)) ?_))));refine PS ?_;refine aq (ek (sr λ_ J11=>PS ?_))
 refine nx J11 (ab λ_ J12=>CY (qx J12 (ab λ_ J13=>au (sr λ_ J14=>P2 ?_))));refine nx J14 (ad (P2 ?_));refine CP jd (cK rb v3 r3 (6)) ID (λ_ d _=>(hf3).more d) (λcP HP hP=>?_) (λvR HR hR=>?_);obtain⟨vP,rfl,rfl,hpP⟩:=hP;refine aO (ay (ay (aO (ay (WK [0] (aU ?_))))));exact⟨_,rfl,rfl,by simp[mK,pr,aD hp1,aD hp2,aD hp3,bU hpP]⟩;obtain⟨a4,r4,v4,rfl,rfl,hp4,ht4⟩:=hR;have hf4:=ht4 _ hf3;refine FA 2 eE eV ?_;refine IX 3 jK aR ?_;refine S0 1 aR ?_;refine aq (ag (ac J13 (ad (tp (cq (r:=2) rfl rfl rfl (by decide)) ?_))));refine PS ?_;refine aq (ek (sr λ_ J15=>PS ?_));refine nx J15 (ab λ_ J16=>CY (qx J16 (ab λ_ J17=>au (sr λ_ J18=>P2 ?_))));refine nx J18 (ad (P2 ?_));refine CP jd (cK rb v4 r4 (6)) ID (λ_ d _=>(hf4).more d) (λcP HP hP=>?_) (λvR HR hR=>?_);obtain⟨vP,rfl,rfl,hpP⟩:=hP;refine aO (ay (ay (aO (ay (WK [0] (aU ?_))))));exact⟨_,rfl,rfl,by simp[mK,pr,aD hp1,aD hp2,aD hp3,aD hp4,bU hpP]⟩;obtain⟨a5,r5,v5,rfl,rfl,hp5,ht5⟩:=hR;have hf5:=ht5 _ hf4;refine FA 2 eE eV ?_;refine IX 4 jK aR ?_;refine S0 1 aR ?_;refine aq (ag (ac J17 (ad (tp (cq (r:=3) rfl rfl rfl (by decide)) ?_))));refine PS ?_;refine aq (ek (sr λ_ J19=>PS ?_));refine nx J19 (ab λ_ J20=>CY (qx J20 (ab λ_ J21=>au (sr λ_ J22=>P2 ?_))));refine nx J22 (ad (P2 ?_));refine CP jd (cK rb v5 r5 (6)) ID (λ_ d _=>(hf5).more d) (λcP HP hP=>?_) (λvR HR hR=>?_)
 obtain⟨vP,rfl,rfl,hpP⟩:=hP;refine aO (ay (ay (aO (ay (WK [0] (aU ?_))))));exact⟨_,rfl,rfl,by simp[mK,pr,aD hp1,aD hp2,aD hp3,aD hp4,aD hp5,bU hpP]⟩;obtain⟨a6,r6,v6,rfl,rfl,hp6,ht6⟩:=hR;have hf6:=ht6 _ hf5;refine FA 2 eE eV ?_;refine IX 5 jK aR ?_;refine S0 1 aR ?_;refine aq (ag (ac J21 (ad (tp (cq (r:=4) rfl rfl rfl (by decide)) ?_))));refine PS ?_;refine aq (ek (sr λ_ J23=>PS ?_));refine nx J23 (ab λ_ J24=>CY (qx J24 (ab λ_ J25=>au (sr λ_ J26=>P2 ?_))));refine nx J26 (ad (P2 ?_));refine CP jd (cK rb v6 r6 (6)) ID (λ_ d _=>(hf6).more d) (λcP HP hP=>?_) (λvR HR hR=>?_);obtain⟨vP,rfl,rfl,hpP⟩:=hP;refine aO (ay (ay (aO (ay (WK [0] (aU ?_))))));exact⟨_,rfl,rfl,by simp[mK,pr,aD hp1,aD hp2,aD hp3,aD hp4,aD hp5,aD hp6,bU hpP]⟩;obtain⟨a7,r7,v7,rfl,rfl,hp7,ht7⟩:=hR;have hf7:=ht7 _ hf6;refine FA 2 eE eV ?_;refine IX 6 jK aR ?_;refine S0 1 aR ?_;refine aq (ag (ac J25 (ad (tp (cq (r:=5) rfl rfl rfl (by decide)) ?_))));refine PS ?_;refine aq (ek (sr λ_ J27=>PS ?_));refine nx J27 (ab λ_ J28=>CN (aY (aC (aC (bo (ac J5 (sr λ_ J29=>tp (aM (vs:=[(.int .i64 (a1)),(.int .i64 (a2)),(.int .i64 (a3)),(.int .i64 (a4)),(.int .i64 (a5)),(.int .i64 (a6)),(.int .i64 (a7))]) rfl eE rfl bf rfl (RO 1) rfl rfl) ?_)))))))
 refine bP (vs:=[(.int .i64 (a1)),(.int .i64 (a2)),(.int .i64 (a3)),(.int .i64 (a4)),(.int .i64 (a5)),(.int .i64 (a6)),(.int .i64 (a7))]) (i:=2) (aa rfl) rfl rfl rfl rfl rfl bf (by simp[Value.oneCell']) rfl rfl (KR rfl) rfl rfl (nx J29 (ai (RC 2 [0] eE bf rfl ?_)));exact⟨⟨a1,a2, #v[a3,a4,a5,a6,a7]⟩,_,_,rfl,rfl,by simp[mK,pr,aD hp1,aD hp2,aD hp3,aD hp4,aD hp5,aD hp6,aD hp7],(ht1.trans (ht2.trans (ht3.trans (ht4.trans (ht5.trans (ht6.trans ht7))))))⟩
theorem oP(rb:Nat)(v:Value)(bs:List UInt8):
 DT 145 #[(.pointer (some ⟨rb,0,none⟩))] (IsB v bs) [ah rb [v] 219] (nK 219 ij ChangeT.val lv v bs rb):=by
 refine BD 14 Tryz.func145 rfl rfl rfl λw0 F hF=>sr λ_ J1=>XA O3 λb2=>?_
 refine nx J1 (sr λ_ J2=>XA O3 λb3=>?_);refine nx J2 (sr λ_ J3=>PS ?_);refine CP jd (cK rb v bs (2)) (SM [2]) (λ_ d _=>(hF).more d) (λcP HP hP=>?_) (λvR HR hR=>?_);obtain⟨vP,rfl,rfl,hpP⟩:=hP;refine ay (WK [0] (aU ?_));exact⟨_,rfl,rfl,by simp[lv,pr,bU hpP]⟩;obtain⟨a1,r1,v1,rfl,rfl,hp1,ht1⟩:=hR;have hf1:=ht1 _ hF;refine FA 0 na aR ?_;refine S0 1 aR ?_;refine nx J3 (sr λ_ J4=>PS ?_);refine CP jd (cK rb v1 r1 (5)) ID (λ_ d _=>(hf1).more d) (λcP HP hP=>?_) (λvR HR hR=>?_);obtain⟨vP,rfl,rfl,hpP⟩:=hP;refine ay (WK [0] (aU ?_));exact⟨_,rfl,rfl,by simp[lv,pr,aD hp1,bU hpP]⟩;obtain⟨a2,r2,v2,rfl,rfl,hp2,ht2⟩:=hR;have hf2:=ht2 _ hf1;refine FA 1 na aR ?_;refine S0 1 aR ?_;refine nx J4 (sr λ_ J5=>PS ?_);refine CP jd (cK rb v2 r2 (5)) ID (λ_ d _=>(hf2).more d) (λcP HP hP=>?_) (λvR HR hR=>?_);obtain⟨vP,rfl,rfl,hpP⟩:=hP;refine ay (WK [0] (aU ?_));exact⟨_,rfl,rfl,by simp[lv,pr,aD hp1,aD hp2,bU hpP]⟩;obtain⟨a3,r3,v3,rfl,rfl,hp3,ht3⟩:=hR;have hf3:=ht3 _ hf2;refine FA 2 na aR ?_;refine S0 1 aR ?_;refine nx J5 (sr λ_ J6=>tp (aM (vs:=[(.int .i64 (a1)),(.int .i64 (a2)),(.int .i64 (a3))]) rfl na rfl fp rfl (RO 1) rfl rfl) ?_);refine bP (vs:=[(.int .i64 (a1)),(.int .i64 (a2)),(.int .i64 (a3))]) (i:=2) (aa rfl) rfl rfl rfl rfl rfl fp (by simp[Value.oneCell']) rfl rfl (KR rfl) rfl rfl (nx J6 (ai (RC 2 [0] na fp rfl ?_)))
 exact⟨⟨a1,a2,a3⟩,_,_,rfl,rfl,by simp[lv,pr,aD hp1,aD hp2,aD hp3],(ht1.trans (ht2.trans ht3))⟩
theorem jt(rb:Nat)(v:Value)(bs:List UInt8):
 DT 144 #[(.pointer (some ⟨rb,0,none⟩))] (IsB v bs) [ah rb [v] 219] (nK 219 ij BallotT.val j9 v bs rb):=by
 refine BD 11 Tryz.func144 rfl rfl rfl λw0 F hF=>sr λ_ J1=>XA O2 λb2=>?_
 refine nx J1 (sr λ_ J2=>XA O2 λb3=>?_);refine nx J2 (sr λ_ J3=>PS ?_);refine CP qb (jc rb v bs) (SM [2]) (λ_ d _=>(hF).more d) (λcP HP hP=>?_) (λvR HR hR=>?_);obtain⟨vP,rfl,rfl,hpP⟩:=hP;refine ay (WK [0] (aU ?_));exact⟨_,rfl,rfl,by simp[j9,pr,bU hpP]⟩;obtain⟨a1,r1,v1,rfl,rfl,hp1,ht1⟩:=hR;have hf1:=ht1 _ hF;refine FA 0 ka aR ?_;refine S0 1 aR ?_;refine nx J3 (sr λ_ J4=>PS ?_);refine CP jd (cK rb v1 r1 (5)) ID (λ_ d _=>(hf1).more d) (λcP HP hP=>?_) (λvR HR hR=>?_);obtain⟨vP,rfl,rfl,hpP⟩:=hP;refine ay (WK [0] (aU ?_));exact⟨_,rfl,rfl,by simp[j9,pr,aD hp1,bU hpP]⟩;obtain⟨a2,r2,v2,rfl,rfl,hp2,ht2⟩:=hR;have hf2:=ht2 _ hf1;refine FA 1 ka aR ?_;refine S0 1 aR ?_;refine nx J4 (sr λ_ J5=>tp (aM (vs:=[(.int .i64 (a1)),(.int .i64 (a2))]) rfl ka rfl cv rfl (RO 1) rfl rfl) ?_);refine bP (vs:=[(.int .i64 (a1)),(.int .i64 (a2))]) (i:=2) (aa rfl) rfl rfl rfl rfl rfl cv (by simp[Value.oneCell']) rfl rfl (KR rfl) rfl rfl (nx J5 (ai (RC 2 [0] ka cv rfl ?_)));exact⟨⟨a1,a2⟩,_,_,rfl,rfl,by simp[j9,pr,aD hp1,aD hp2],(ht1.trans ht2)⟩
theorem tM(rb:Nat)(v:Value)(bs:List UInt8):
 DT 142 #[(.pointer (some ⟨rb,0,none⟩))] (IsB v bs) [ah rb [v] 219] (nK 219 ij RowT.val vg v bs rb):=by
 refine BD 45 Tryz.func142 rfl rfl rfl λw0 F hF=>sr λ_ J1=>XZ uu (Api.ints Api.RowT.zero.flat) λb2=>?_
 refine nx J1 (sr λ_ J2=>XZ uu (Api.ints Api.RowT.zero.flat) λb3=>?_);refine nx J2 (sr λ_ J3=>PS ?_);refine CP qb (jc rb v bs) (SM [2]) (λ_ d _=>(hF).more d) (λcP HP hP=>?_) (λvR HR hR=>?_);obtain⟨vP,rfl,rfl,hpP⟩:=hP;refine ay (WK [0] (aU ?_));exact⟨_,rfl,rfl,by rw[vg,bU hpP]⟩;obtain⟨a1,r1,v1,rfl,rfl,hp1,ht1⟩:=hR;have hf1:=ht1 _ hF;refine FA 0 dU aR ?_;refine bP (vs:=[.int .i64 a1]) (i:=1) (aa rfl) rfl rfl rfl rfl rfl aR (bj [a1]) rfl rfl (by rw[aj];show _+1≤174;omega) (RowT.wr_version _ _) rfl (nx J3 (ab λ_ J4=>sr λ_ J5=>PS ?_));refine nx J5 (au ?_)
 refine bu (α:=(Nat)×(RowT)×(Value)×(List UInt8)) (λ⟨k,x,u,r⟩=>k≤4∧IsB u r F∧Tail v bs u r∧vg bs=pb (m9 (4-k) k x) (jh 5 0) r) (λ⟨k,x,u,r⟩=>[(0,(.pointer (some ⟨rb,0,none⟩))),(2,(.pointer (some ⟨b2,0,none⟩))),(3,(.pointer (some ⟨b3,0,none⟩))),(10,(.int .i64 ((k:Nat))))]) (λ⟨k,x,u,r⟩=>[ah b3 (ints (x).flat) 39,ah b2 (Api.ints Api.RowT.zero.flat) 39,ah rb [u] 219]) (λ⟨k,x,u,r⟩=>4-k) (0,({Api.RowT.zero with version:=a1}:RowT),v1,r1)
  ⟨by omega,hf1,ht1,by rw[vg,aD hp1]⟩ SB
  (λ_ s=>ak [1,1,0] rfl s) (λ⟨k,x,u,r⟩ hinv=>?_)
 obtain⟨hk,hf,htl,hp⟩:=hinv;refine sr λ_ J6=>PS ?_
 refine ao ?_ ?_<;>intro h11;refine nx J6 (ab λ_ J7=>CY (qx J7 (ab λ_ J8=>au (sr λ_ J9=>P2 ?_))));refine nx J9 (ad (P2 ?_));refine CP LM (wQ rb u r) (SM [2]) (λ_ d _=>(hf).more d) (λcP HP hP=>?_) (λvR HR hR=>?_);obtain⟨vP,rfl,rfl,hpP⟩:=hP;refine aO (ay (ay (aO (ay (WK [0] (aU ?_))))));exact⟨_,rfl,rfl,by rw[hp,Dd (by omega) hpP]⟩;obtain⟨a2,r2,v2,rfl,rfl,hp2,ht2⟩:=hR;have hf2:=ht2 _ hf;refine FA 1 dU ly ?_;refine IX (1+k*7) Be fx ?_;refine bP (vs:=ints a2.flat) (i:=1) (aa rfl) rfl rfl rfl rfl rfl (by rw[bm];exact fx) (bj _) rfl rfl (by rw[aj,bm];omega) (RowT.wr_cell _ k (by omega) _) rfl (aq (ag (ac J8 (ad (AD ?_)))));refine PS ?_;refine aq ?_
 exact aJ ((k+1,({x with cells:=(x).cells.set k a2 (by omega)}:RowT),v2,r2):(Nat)×(RowT)×(Value)×(List UInt8)) ⟨by omega,hf2,(htl.trans ht2),by rw[hp,De (by omega) hp2]⟩ (by show _-_<_-_;omega)
  SB
  (λ_ s=>ak [1,1,0] rfl s)
 refine nx J6 (ab λ_ J10=>CN (aY (aC (aC (bo (ac J4 (ab λ_ J11=>sr λ_ J12=>PS ?_)))))));refine nx J12 (au ?_)
 refine bu (α:=(Nat)×(RowT)×(Value)×(List UInt8)) (λ⟨i,x,u,r⟩=>i≤5∧IsB u r F∧Tail v bs u r∧vg bs=jh (5-i) i x r) (λ⟨i,x,u,r⟩=>[(0,(.pointer (some ⟨rb,0,none⟩))),(2,(.pointer (some ⟨b2,0,none⟩))),(3,(.pointer (some ⟨b3,0,none⟩))),(19,(.int .i64 ((i:Nat))))]) (λ⟨i,x,u,r⟩=>[ah b3 (ints (x).flat) 39,ah b2 (Api.ints Api.RowT.zero.flat) 39,ah rb [u] 219]) (λ⟨i,x,u,r⟩=>5-i) (0,x,u,r)
  ⟨by omega,hf,htl,by rw[hp,Ff (by omega)]⟩ SB
  (λ_ s=>ak [0,0,0] rfl s) (λ⟨i,x,u,r⟩ hinv=>?_)
 obtain⟨hi,hf,htl,hp⟩:=hinv;refine sr λ_ J13=>PS ?_
 refine ao ?_ ?_<;>intro h20;refine nx J13 (ab λ_ J14=>CY (qx J14 (ab λ_ J15=>au (sr λ_ J16=>P2 ?_))));refine nx J16 (sr λ_ J17=>P2 ?_);refine CP qb (jc rb u r) (SM [2]) (λ_ d _=>(hf).more d) (λcP HP hP=>?_) (λvR HR hR=>?_);obtain⟨vP,rfl,rfl,hpP⟩:=hP;refine ay (aO (ay (ay (aO (ay (WK [0] (aU ?_)))))));exact⟨_,rfl,rfl,by rw[hp,CB (by omega) hpP]⟩;obtain⟨a2,r2,v2,rfl,rfl,hp2,ht2⟩:=hR;have hf2:=ht2 _ hf;refine FA 29 dU eV ?_;refine IX (29+i) jK aR ?_;refine bP (vs:=[.int .i64 a2]) (i:=1) (aa rfl) rfl rfl rfl rfl rfl aR (bj [a2]) rfl rfl (by rw[aj];show _+1≤174;omega) (RowT.wr_heir _ i (by omega) _) rfl (nx J17 (sr λ_ J18=>PS ?_));refine FA 29 dU eV ?_;refine IX (29+i) jK aR ?_;refine LT 1 Y3 (.int .i64 (a2)) ?_ (hc:=by exact by rw[RowT.get_heir _ i (by omega)];simp);refine PS ?_;refine ao ?_ ?_<;>intro h31;refine nx J18 (CY (sr λ_ J19=>PS ?_));refine nx J19 (au ?_)
 refine bu (α:=(Nat)×(RowT)×(Value)×(List UInt8)) (λ⟨k,y,uL,rL⟩=>k≤4∧IsB uL rL F∧Tail v bs uL rL∧vg bs=pb (qe (4-k) i k y) (jh (5- (i+1)) (i+1)) rL) (λ⟨k,y,uL,rL⟩=>[(0,(.pointer (some ⟨rb,0,none⟩))),(2,(.pointer (some ⟨b2,0,none⟩))),(3,(.pointer (some ⟨b3,0,none⟩))),(5,(.int .i64 ((i:Nat)))),(19,(.int .i64 ((i:Nat)))),(32,(.int .i64 ((k:Nat))))]) (λ⟨k,y,uL,rL⟩=>[ah b3 (ints (y).flat) 39,ah b2 (Api.ints Api.RowT.zero.flat) 39,ah rb [uL] 219]) (λ⟨k,y,uL,rL⟩=>4-k) (0,({x with heir:=(x).heir.set i a2}:RowT),v2,r2)
  ⟨by omega,hf2,(htl.trans ht2),by rw[hp,EM (by omega) hp2 h31]⟩ SB
  (λ_ s=>ak [1,1,0] rfl s) (λ⟨k,y,uL,rL⟩ hinv=>?_)
 obtain⟨hk,hfL,htlL,hpL⟩:=hinv;refine sr λ_ J20=>PS ?_
 refine ao ?_ ?_<;>intro h33;refine nx J20 (ab λ_ J21=>CY (qx J21 (ab λ_ J22=>au (sr λ_ J23=>P2 ?_))));refine nx J23 (D0 mixed ?_);refine PD 0 ?_;refine PD 1 ?_;refine PD 2 ?_;refine FD 4 34 dU By ?_;refine IY 5 (34+i*28) Mh ly ?_;refine AL 3 ?_;refine CP LM (wQ rb uL rL) (SM [2]) (λ_ d _=>(hfL).more d) (λcP HP hP=>?_) (λvR HR hR=>?_);obtain⟨vP,rfl,rfl,hpP⟩:=hP;refine ay (aO (ay (ay (aO (aO (ay (ay (aO (ay (WK [0] (aU ?_)))))))))));exact⟨_,rfl,rfl,by rw[hpL,EC (by omega) hpP]⟩;obtain⟨a3,r3,v3,rfl,rfl,hp3,ht3⟩:=hR;have hf3:=ht3 _ hfL;refine EN (IY 6 (34+i*28+k*7) Be fx ?_);refine AL 7 ?_;refine bP (vs:=ints a3.flat) (i:=1) (aa rfl) rfl rfl rfl rfl rfl (by rw[bm];exact fx) (bj _) rfl rfl (by rw[aj,bm];omega) (RowT.wr_left _ i k (by omega) (by omega) _) rfl (EN (DN (ag (ac J22 (ad (AD ?_))))));refine PS ?_;refine aq ?_
 exact aJ ((k+1,({y with left:=(y).left.set i (((y).left[i]'(by omega)).set k a3 (by omega)) (by omega)}:RowT),v3,r3):(Nat)×(RowT)×(Value)×(List UInt8)) ⟨by omega,hf3,(htlL.trans ht3),by rw[hpL,ED (by omega) (by omega) hp3]⟩ (by show _-_<_-_;omega)
  SB
  (λ_ s=>ak [1,1,0] rfl s)
 refine nx J20 (ab λ_ J24=>CN (aY (aC (aC (bo (ag (ac J15 (ad (AD ?_)))))))));refine PS ?_;refine aq ?_
 exact aJ ((i+1,y,uL,rL):(Nat)×(RowT)×(Value)×(List UInt8)) ⟨by omega,hfL,htlL,by rw[hpL,Hn (by omega)]⟩ (by show _-_<_-_;omega)
  SB
  (λ_ s=>ak [0,0,0] rfl s)
 refine nx J18 (CN (aT (ag (ac J15 (ad (AD ?_))))));refine PS ?_;refine aq ?_
 exact aJ ((i+1,({x with heir:=(x).heir.set i a2}:RowT),v2,r2):(Nat)×(RowT)×(Value)×(List UInt8)) ⟨by omega,hf2,(htl.trans ht2),by rw[hp,Hy (by omega) hp2 h31]⟩ (by show _-_<_-_;omega)
  SB
  (λ_ s=>ak [1,1,0] rfl s)
 refine nx J13 (ab λ_ J25=>CN (aY (aC (aC (bo (ac J11 (sr λ_ J26=>tp (aM (vs:=ints (x).flat) rfl dU rfl ba rfl (RO 0) (aj _) (by rw[aV,az (by rw[aj];decide)])) ?_)))))));refine bP (vs:=ints (x).flat) (i:=1) (aa rfl) rfl rfl rfl rfl rfl (by rw[aj];exact ba) (bj _) rfl rfl (by rw[aj,bg,aj];decide) (gd (by rw[aj,aj])) rfl (nx J26 (ai (RC 1 [2] dU ba (aj _) ?_)));exact⟨x,_,_,rfl,rfl,by rw[hp,EO (by omega)],htl⟩
theorem jQ(n:Int):
 DT 28 #[(.int .i64 (n))] T0 [] (RI (.bool (H3 n)) []):=by
 refine BD 9 Tryz.func28 rfl rfl rfl λw0 F hF=>sr λ_ J1=>PS ?_
 refine nx J1 (sr λ_ J2=>P2 ?_);refine ao ?_ ?_<;>intro h4
 iterate 5 refine PS ?_
 refine nx J2 (ai (av rfl rfl ?_));exact⟨congrArg Value.bool (by unfold H3;first| (rw[decide_eq_decide];omega)| (symm;rw[decide_eq_false_iff_not];omega)| (symm;rw[decide_eq_true_iff];omega)),rfl⟩;refine PS ?_;refine UF ?_;refine UF ?_;refine P2 ?_;refine nx J2 (ai (av rfl rfl ?_));exact⟨congrArg Value.bool (by unfold H3;first| (rw[decide_eq_decide];omega)| (symm;rw[decide_eq_false_iff_not];omega)| (symm;rw[decide_eq_true_iff];omega)),rfl⟩
theorem jM(w:Int):
 DT 100 #[(.int .i64 (w))] T0 [] (RI (.bool (cH w)) []):=by
 refine BD 9 Tryz.func100 rfl rfl rfl λw0 F hF=>sr λ_ J1=>PS ?_
 refine nx J1 (sr λ_ J2=>P2 ?_);refine ao ?_ ?_<;>intro h4
 iterate 5 refine PS ?_
 refine nx J2 (ai (av rfl rfl ?_));exact⟨congrArg Value.bool (by unfold cH;first| (rw[decide_eq_decide];omega)| (symm;rw[decide_eq_false_iff_not];omega)| (symm;rw[decide_eq_true_iff];omega)),rfl⟩;refine PS ?_;refine UF ?_;refine UF ?_;refine P2 ?_;refine nx J2 (ai (av rfl rfl ?_));exact⟨congrArg Value.bool (by unfold cH;first| (rw[decide_eq_decide];omega)| (symm;rw[decide_eq_false_iff_not];omega)| (symm;rw[decide_eq_true_iff];omega)),rfl⟩
theorem dD(v:ViewT)(w:Int):
 DT 71 #[(.agg (ints v.flat).toArray),(.int .i64 (w))] T0 [] (RI (.bool (iO v w)) []):=by
 refine BD 15 Tryz.func71 rfl rfl rfl λw0 F hF=>sr λ_ J1=>XY (ints v.flat) λb2=>?_
 refine PS ?_;refine nx J1 (sr λ_ J2=>PS ?_);refine CE Ck (jM w) ID ?_;refine bc ?_ ?_<;>intro h6;have hm:0≤w∧w<5:=of_decide_eq_true h6;refine PS ?_;refine FA 1 eE aR ?_;refine LU 0 Y3 (jW v rfl) ?_;refine PS ?_;refine tq (jX (r:=(v.members.fdiv (2^min w.toNat IntKind.i64.bits))) rfl rfl rfl (by omega) rfl) ?_;refine tq (pD (r:=((v.members.fdiv (2^min w.toNat IntKind.i64.bits))%2)) rfl rfl rfl (Lg _)) ?_;refine P3 ?_;refine nx J2 (ai (WK [] (av rfl rfl ?_)));exact⟨congrArg Value.bool (by rw[iO,h6];rfl),rfl⟩;refine PS ?_
 iterate 6 refine UF ?_
 refine P2 ?_;refine nx J2 (ai (WK [] (av rfl rfl ?_)));exact⟨congrArg Value.bool (by rw[iO,h6];rfl),rfl⟩
theorem AB(b off cap:Nat)(l:List Int)(hl:l.length≤1000)(cs:List Value)(T:TypeId)(z:Nat×Nat)(hb: ∀j,j<l.length→cs[off+j]?=some (.int .i64 (l.getD j 0))):
 DT 136 #[(.slice (some ⟨b,off,none⟩) (l.length) (cap))] (λF=>F b=some (.cells cs.toArray T z)) [] (RI (.tuple #[.int .i64 (uq l 0).1, .int .i64 (uq l 0).2]) []):=by
 refine BD 25 Tryz.func136 rfl rfl rfl λw0 F hF=>sr λ_ J1=>P2 ?_
 refine nx J1 (sr λ_ J2=>PS ?_);refine nx J2 (ab λ_ J3=>sr λ_ J4=>PS ?_);refine tp (qw rfl iL rfl) ?_;refine PS ?_;refine nx J4 (au ?_)
 refine bu (α:=(Nat)×(Int)) (λ⟨k,s⟩=>k≤l.length∧0≤s∧s≤1099511627776∧uq l 0=uq (l.drop k) s) (λ⟨k,s⟩=>[(4,(.int .i64 (s))),(7,(.slice (some ⟨b,off,none⟩) (l.length) (cap))),(8,(.int .i64 (((l.length:Nat):Int)))),(9,(.int .i64 (((k:Nat):Int))))]) (λ⟨k,s⟩=>[]) (λ⟨k,s⟩=>l.length-k) (0,0)
  ⟨aN _,by omega,by omega,rfl⟩ SB
  (λ_ s=>s) (λ⟨k,s⟩ hinv=>?_)
 obtain⟨hk,hs0,hs1,he⟩:=hinv;refine sr λ_ J5=>PS ?_
 refine ao ?_ ?_<;>intro h10;refine nx J5 (ab λ_ J6=>CY (qx J6 (ab λ_ J7=>au (sr λ_ J8=>tp (jx (r:=off+k) rfl iL aR rfl rfl (by first|omega|decide) (by first|omega|decide) (by omega)) ?_))));refine tp (eZ (v:=(.int .i64 ((l.getD k 0)))) rfl Y3 rfl rfl (Rd.ro hF) (hb k (by omega))) ?_;refine PS ?_;refine nx J8 (ab λ_ J9=>sr λ_ J10=>PS ?_);refine CE IV (jQ (l.getD k 0)) ID ?_;refine bc ?_ ?_<;>intro h14;have hn:0≤l.getD k 0∧l.getD k 0≤1099511627776:=of_decide_eq_true h14;refine PS ?_;refine nx J10 (CN (qx J9 (ab λ_ J11=>sr λ_ J12=>P2 ?_)));refine tp (ix rfl rfl rfl (bF (by omega) (by omega))) ?_;refine PS ?_;refine ao ?_ ?_<;>intro h19;refine nx J12 (CY (sr λ_ J13=>P2 ?_));refine nx J13 (ai (ae (aH (ae (ae (aH (ae (WK [] (gQ rfl rfl rfl ?_)))))))));exact⟨by rw[he,xU (show k<l.length by omega),if_pos h14,if_pos (by omega)],rfl⟩;refine nx J12 (CN (qx J11 (ad (P2 ?_))));refine AD ?_;refine PS ?_;refine aq (ag (ac J7 (ad (AD ?_))));refine PS ?_;refine aq ?_
 exact aJ ((k+1,s+l.getD k 0):(Nat)×(Int)) ⟨by omega,by omega,by omega,by rw[he,xU (show k<l.length by omega),if_pos h14,if_neg (by omega)]⟩ (by show l.length- (k+1)<l.length-k;omega)
  SB
  (λ_ s=>s)
 refine PS ?_;refine nx J10 (CY (sr λ_ J14=>P2 ?_));refine nx J14 (ai (ae (aH (ae (ae (aH (ae (WK [] (gQ rfl rfl rfl ?_)))))))));exact⟨by rw[he,xU (show k<l.length by omega),if_neg (by rw[h14];decide)],rfl⟩;refine nx J5 (ab λ_ J15=>CN (aY (aC (aC (bo (ac J3 (sr λ_ J16=>P3 ?_)))))));refine nx J16 (ai (WK [] (gQ rfl rfl rfl ?_)));exact⟨by rw[he,e7 (by omega)];rfl,rfl⟩
theorem Em:
 DT 136 #[(.slice none 0 0)] T0 [] (RI (.tuple #[.int .i64 (uq [] 0).1, .int .i64 (uq [] 0).2]) []):=by
 refine BD 25 Tryz.func136 rfl rfl rfl λw0 F hF=>sr λ_ J1=>P2 ?_
 refine nx J1 (sr λ_ J2=>PS ?_);refine nx J2 (ab λ_ J3=>sr λ_ J4=>PS ?_);refine tp (qw rfl iL rfl) ?_;refine PS ?_;refine nx J4 (au ?_)
 refine bu (α:=Unit) (λ_u=>True) (λ_u=>[(4,(.int .i64 0)),(7,(.slice none 0 0)),(8,(.int .i64 0)),(9,(.int .i64 0))]) (λ_u=>[]) (λ_u=>0) ()
  trivial SB
  (λ_ s=>s) (λ_u hinv=>?_)
 obtain _:=hinv;refine sr λ_ J5=>PS ?_
 refine nx J5 (ab λ_ J6=>CN (aY (aC (aC (bo (ac J3 (sr λ_ J7=>P3 ?_)))))));exact nx J7 (ai (WK [] (gQ rfl rfl rfl ⟨rfl,rfl⟩)))
theorem Ch(x:Value)(l:List Int)(hl:l.length≤1000):DT 136 #[x] (P0 x l) [] (RI (.tuple #[.int .i64 (uq l 0).1, .int .i64 (uq l 0).2]) []):=by
 refine Leg.Does.of λF hF=>?_
 rcases id hF with⟨rfl,rfl⟩| ⟨b,off,cap,cs,T,z,rfl,h3,h4⟩
 · exact⟨_,trivial,Em⟩
 · exact⟨_,h3,AB b off cap l hl cs T z h4⟩
theorem pd(x:Vector CellT 4):
    DT 98 #[(.agg (ints (bR x.toList)).toArray)] T0 [] (RI (.bool (Ek x)) []):=by
 refine BD 30 Tryz.func98 rfl rfl rfl λw0 F hF=>sr λ_ J1=>XY (ints (bR x.toList)) λb1=>?_
 refine PS ?_;refine nx J1 (ab λ_ J2=>sr λ_ J3=>tp (aM (vs:=ints (bR x.toList)) rfl Be rfl ly rfl (RO 0) (ee x) (whole (ee x))) ?_);refine PS ?_;refine nx J3 (au ?_)
 refine bu (α:=(Nat)) (λk=>k≤4∧∀(j:Nat) (h:j<4),j<k→Nh x[j]=true) (λk=>[(7,(.agg (ints (bR x.toList)).toArray)),(8,(.int .i64 (((k:Nat):Int))))]) (λk=>[ah b1 (ints (bR x.toList)) 36]) (λk=>4-k) 0
     ⟨aN _,λj h hj=>absurd hj (by omega)⟩ SB
     (λ_ s=>s) (λk hinv=>?_)
 obtain⟨hk,ho⟩:=hinv;refine sr λ_ J4=>PS ?_
 refine ao ?_ ?_<;>intro h9;refine nx J4 (ab λ_ J5=>CY (qx J5 (ab λ_ J6=>au (sr λ_ J7=>tp (PV.indexN (cs:=ints (bR x.toList)) (vs:=ints (x[k]'(by omega)).flat) (r:=k*7) rfl Be mH rfl fx rfl rfl (by omega) (by omega) (by omega) (kF bv x (i:=k) 0 (by omega) (by omega) (by decide) (whole (bm (x[k]'(by omega)))))) ?_))));refine XZ JW (ints CellT.zero.flat) λb4=>?_
 refine SW 0 fx bm ?_;refine nx J7 (ab λ_ J8=>sr λ_ J9=>FA 0 mH aR ?_);refine LT 0 Y3 (.int .i64 ((x[k]'(by omega)).inn)) ?_ (hc:=by exact sd _ rfl);refine CE IV (jQ ((x[k]'(by omega)).inn)) ID ?_;refine bc ?_ ?_<;>intro h13;refine PS ?_;refine PS ?_;refine FA 1 mH aR ?_;refine LT 0 Y3 (.int .i64 ((x[k]'(by omega)).out)) ?_ (hc:=by exact sc _ rfl);refine CE IV (jQ ((x[k]'(by omega)).out)) ID ?_;refine bc ?_ ?_<;>intro h18;refine PS ?_;refine PS ?_;refine nx J9 (CN (qx J8 (sr λ_ J10=>FA 2 mH eV ?_)));refine tp (lT rfl jK aR rfl) ?_;refine CF Oe (Ch (.slice (some ⟨b4,2,none⟩) (5) (5)) ((x[k]'(by omega)).given).toList (by simp)) ID (dF 0 rfl rfl (by simp) (by rw[aA];exact(CellT.sub_given (x[k]'(by omega)) 0 rfl (by decide) (whole (di ((x[k]'(by omega)).given)))))) ?_;refine P4 ?_;refine PS ?_;refine nx J10 (sr λ_ J11=>P2 ?_);refine ao ?_ ?_<;>intro h28;refine nx J11 (CY (sr λ_ J12=>PS ?_));refine nx J12 (ai (aH (ae (ae (aH (ae (WK [] (av rfl rfl ⟨congrArg Value.bool ?_,rfl⟩))))))));symm;rw[Ek,decide_eq_false_iff_not];intro h;have h:=h k (by omega);unfold Nh at h;simp at h;exact absurd h.2 h28;refine nx J11 (CN (aT (ag (ac J6 (ad (AD ?_))))));refine PS ?_;refine aq ?_
 exact aJ ((k+1):(Nat)) ⟨by omega,λj h hj=>by
        by_cases q:j=k
        · subst q;unfold Nh;simp_all
        · exact ho j h (by omega)⟩ (by show 4- (k+1)<4-k;omega)
   SB
   (λ_ s=>ak [1] rfl s)
 refine PS ?_;refine PS ?_;refine nx J9 (CY (sr λ_ J13=>PS ?_));refine nx J13 (ai (ae (aH (ae (ae (aH (ae (WK [] (av rfl rfl ⟨congrArg Value.bool ?_,rfl⟩)))))))));symm;rw[Ek,decide_eq_false_iff_not];intro h;have h:=h k (by omega);unfold Nh at h;simp[h18]at h;refine PS ?_;refine PS ?_
 iterate 4 refine UT ?_
 refine PS ?_;refine nx J9 (CY (sr λ_ J14=>PS ?_));refine nx J14 (ai (ae (aH (ae (ae (aH (ae (WK [] (av rfl rfl ⟨congrArg Value.bool ?_,rfl⟩)))))))));symm;rw[Ek,decide_eq_false_iff_not];intro h;have h:=h k (by omega);unfold Nh at h;simp[h13]at h;refine nx J4 (ab λ_ J15=>CN (aY (aC (aC (bo (ac J2 (sr λ_ J16=>PS ?_)))))));refine nx J16 (ai (WK [] (av rfl rfl ?_)));exact⟨congrArg Value.bool (by symm;rw[Ek,decide_eq_true_iff];exact λj h=>ho j h (by omega)),rfl⟩
theorem Pi:Tryz.prog.eqGuardType Tryz.prog.depth 36=false:=by kernel_rfl
theorem Pe:Tryz.prog.keyTypeAt 6 36=true:=by kernel_rfl
theorem PL:qh Tryz.prog 6 36=some 28:=by kernel_rfl
theorem OC:(match Tryz.prog.underlying 36 with|some (.struct _)|some (.array _ _)=>true|_=>false)=true:=by kernel_rfl
theorem OG:Tryz.prog.cellsOf 36=28:=by kernel_rfl
theorem Ke{x:RowT}(h:WF x.flat)(i:Nat)(hi:i<5):WF (bR x.left[i].toList):=λn hn=>h n (by
 simp only[RowT.flat,bN,cG,jZ]
 exact .inr (.inr (.inr ⟨x.left[i],by simp[Vector.getElem_mem],hn⟩)))
theorem No:WF (bR RowT.zero.left[0].toList):=λn hn=>by
 have:n∈List.replicate 28 (0:Int):=hn;obtain rfl:=List.eq_of_mem_replicate this;decide
theorem jO(x:RowT)(hw:WF x.flat):
    DT 59 #[(.agg (ints x.flat).toArray)] T0 [] (RI (.bool (gY x)) []):=by
 refine BD 41 Tryz.func59 rfl rfl rfl λw0 F hF=>sr λ_ J1=>XY (ints x.flat) λb1=>?_
 refine PS ?_;refine nx J1 (ab λ_ J2=>sr λ_ J3=>FA 0 dU aR ?_);refine LU 0 Y3 (cx x rfl) ?_;refine PS ?_;refine ao ?_ ?_<;>intro h7;refine PS ?_
 iterate 4 refine UT ?_
 refine PS ?_;refine nx J3 (CY (sr λ_ J4=>PS ?_));refine nx J4 (ai (ae (WK [] (av rfl rfl ⟨congrArg Value.bool ?_,rfl⟩))));symm;rw[gY,ff];intro h;rw[ax,ax,decide_eq_true_iff,decide_eq_true_iff]at h;omega;refine PS ?_;refine FA 1 dU ly ?_;refine tq (aM (vs:=ints (bR x.cells.toList)) rfl Be rfl ly rfl (RO 0) (ee x.cells) (Dt x 0 rfl (by decide) (whole (ee x.cells)))) ?_;refine CE Ny (pd x.cells) ID ?_;refine bc ?_ ?_<;>intro h11;refine PS ?_;refine PS ?_;refine nx J3 (CN (qx J2 (ab λ_ J5=>sr λ_ J6=>FA 29 dU eV ?_)));refine tp (aM (vs:=ints x.heir.toList) rfl jK rfl eV rfl (RO 0) (di x.heir) (PO x 0 rfl (by decide) (whole (di x.heir)))) ?_;refine PS ?_;refine nx J6 (au ?_)
 refine bu (α:=(Nat)) (λi=>i≤5∧∀(j:Nat) (h:j<5),j<i→EK x.heir[j] x.left[j]=true) (λi=>[(1,(.pointer (some ⟨b1,0,none⟩))),(15,(.agg (ints x.heir.toList).toArray)),(16,(.int .i64 (((i:Nat):Int))))]) (λi=>[ah b1 (ints x.flat) 39]) (λi=>5-i) 0
     ⟨aN _,λj h hj=>absurd hj (by omega)⟩ SB
     (λ_ s=>s) (λi hinv=>?_)
 obtain⟨hi,ho⟩:=hinv;refine sr λ_ J7=>PS ?_
 refine ao ?_ ?_<;>intro h17;refine nx J7 (ab λ_ J8=>CY (qx J8 (ab λ_ J9=>au (sr λ_ J10=>PS ?_))));refine tp (nB (cs:=ints x.heir.toList) (v:=Value.int .i64 (x.heir[i]'(by omega))) (r:=i) rfl jK Y3 rfl aR rfl rfl (by omega) (by omega) (by omega) (kl x.heir (by omega))) ?_;refine P2 ?_;refine nx J10 (ab λ_ J11=>sr λ_ J12=>P2 ?_);refine ao ?_ ?_<;>intro h21;refine PS ?_
 iterate 6 refine UT ?_
 refine PS ?_;refine nx J12 (CY (sr λ_ J13=>PS ?_));refine nx J13 (ai (ae (aH (ae (ae (aH (ae (WK [] (av rfl rfl ⟨congrArg Value.bool ?_,rfl⟩)))))))));symm;rw[gY,ff];intro h;rw[ax,ax,decide_eq_true_iff,decide_eq_true_iff]at h;have h:=h.2 i (by omega);unfold EK at h;rw[ax,ax,decide_eq_true_iff,decide_eq_true_iff]at h;omega;refine P2 ?_;refine FA 34 dU By ?_;refine IX (34+i*28) Mh ly ?_;refine tq (aM (vs:=ints (bR (x.left[i]'(by omega)).toList)) rfl Be rfl ly rfl (RO 0) (ee (x.left[i]'(by omega))) (F9 x (i*28) (by omega) (by omega) (kF tA x.left (i:=i) 0 (by omega) (by omega) (by decide) (whole (ee (x.left[i]'(by omega))))))) ?_;refine CE Ny (pd (x.left[i]'(by omega))) ID ?_;refine bc ?_ ?_<;>intro h27;refine PS ?_;refine PS ?_;refine nx J12 (CN (qx J11 (sr λ_ J14=>P2 ?_)));refine ao ?_ ?_<;>intro h31;refine P2 ?_;refine FA 34 dU By ?_;refine IX (34+i*28) Mh ly ?_;refine tq (aM (vs:=ints (bR (x.left[i]'(by omega)).toList)) rfl Be rfl ly rfl (RO 0) (ee (x.left[i]'(by omega))) (F9 x (i*28) (by omega) (by omega) (kF tA x.left (i:=i) 0 (by omega) (by omega) (by decide) (whole (ee (x.left[i]'(by omega))))))) ?_;refine BV ((ints (bR RowT.zero.cells.toList)).toArray) ?_
 refine tq (Lp (a:=bR (x.left[i]'(by omega)).toList) (b:=bR RowT.zero.cells.toList) (m:=6) (c:=28) Pi Pe rfl PL (eY (ee (x.left[i]'(by omega)))) (eY (ee RowT.zero.cells)) ⟨iC OC OG (eY (ee (x.left[i]'(by omega)))),iC OC OG (eY (ee RowT.zero.cells))⟩ (Ke hw i (by omega)) No rfl rfl rfl) ?_;refine ao ?_ ?_<;>intro h38;refine PS ?_;refine nx J14 (CY (sr λ_ J15=>PS ?_));refine nx J15 (ai (aH (ae (ae (aH (ae (WK [] (av rfl rfl ⟨congrArg Value.bool ?_,rfl⟩))))))));symm;rw[gY,ff];intro h;rw[ax,ax,decide_eq_true_iff,decide_eq_true_iff]at h;have h:=h.2 i (by omega);unfold EK at h;rw[ax,ax,decide_eq_true_iff,decide_eq_true_iff]at h;exact h38 (h.2 h31);refine PS ?_;refine nx J14 (CN (aT (ag (ac J9 (ad (AD ?_))))));refine PS ?_;refine aq ?_
 exact aJ ((i+1):(Nat)) ⟨by omega,λj h hj=>by
        by_cases q:j=i
        · subst q;unfold EK;rw[ax,ax,decide_eq_true_iff,decide_eq_true_iff];exact⟨⟨by omega,h27⟩,λe=>by first|exact absurd e h31|exact Classical.not_not.1 h38⟩
        · exact ho j h (by omega)⟩ (by show 5- (i+1)<5-i;omega)
   SB
   (λ_ s=>s)
 refine PS ?_
 iterate 6 refine UF ?_
 refine PS ?_;refine nx J14 (CN (aT (ag (ac J9 (ad (AD ?_))))));refine PS ?_;refine aq ?_
 exact aJ ((i+1):(Nat)) ⟨by omega,λj h hj=>by
        by_cases q:j=i
        · subst q;unfold EK;rw[ax,ax,decide_eq_true_iff,decide_eq_true_iff];exact⟨⟨by omega,h27⟩,λe=>by first|exact absurd e h31|exact Classical.not_not.1 h38⟩
        · exact ho j h (by omega)⟩ (by show 5- (i+1)<5-i;omega)
   SB
   (λ_ s=>s)
 refine PS ?_;refine PS ?_;refine nx J12 (CY (sr λ_ J16=>PS ?_));refine nx J16 (ai (ae (aH (ae (ae (aH (ae (WK [] (av rfl rfl ⟨congrArg Value.bool ?_,rfl⟩)))))))));symm;rw[gY,ff];intro h;rw[ax,ax,decide_eq_true_iff,decide_eq_true_iff]at h;have h:=h.2 i (by omega);unfold EK at h;rw[ax,ax,decide_eq_true_iff,decide_eq_true_iff]at h;rw[h27]at h;exact absurd h.1.2 (by decide);refine nx J7 (ab λ_ J17=>CN (aY (aC (aC (bo (ac J5 (sr λ_ J18=>PS ?_)))))));refine nx J18 (ai (WK [] (av rfl rfl ?_)));exact⟨congrArg Value.bool (by symm;rw[gY,ax,ax,decide_eq_true_iff,decide_eq_true_iff];exact⟨⟨by omega,h11⟩,λj h=>ho j h (by omega)⟩),rfl⟩;refine PS ?_;refine PS ?_;refine nx J3 (CY (sr λ_ J19=>PS ?_));refine nx J19 (ai (ae (WK [] (av rfl rfl ⟨congrArg Value.bool ?_,rfl⟩))));symm;rw[gY,ff];intro h;rw[ax,ax,decide_eq_true_iff,decide_eq_true_iff]at h;rw[h11]at h;exact absurd h.1.2 (by decide)
theorem xz:
 DT 62 #[] T0 [] (RI (.agg (ints firstV.flat).toArray) []):=by
 refine BD 2 Tryz.func62 rfl rfl rfl λw0 F hF=>sr λ_ J1=>XZ se (ints ViewT.zero.flat) λb0=>?_
 refine nx J1 (sr λ_ J2=>tp (yL (cs:=ints (ViewT.mk 1 7 (#v[0,0,0,0,0])).flat) (segs:=[[Value.int .i64 0],[Value.int .i64 0],ints (#v[0,0,0,0,0]).toList]) (res:=[[Value.int .i64 1],[Value.int .i64 7],ints (#v[0,0,0,0,0]).toList]) (parts:=[(0,[Value.int .i64 1]),(1,[Value.int .i64 7])]) rfl rfl eE (by kernel_rfl) (by kernel_rfl) rfl (e9 rfl rfl (e9 rfl rfl lF)) (nb (ViewT.mk 1 7 (#v[0,0,0,0,0]))).symm) ?_);refine SW 0 bf am ?_;refine nx J2 (ai (RC 0 [] eE bf (am _) ?_));exact⟨rfl,rfl⟩
theorem mJ(v:ViewT)(hh:Rng v):
    DT 147 #[(.agg (ints v.flat).toArray)] T0 [] (RI (.bool (kM v)) []):=by
 refine BD 39 Tryz.func147 rfl rfl rfl λw0 F hF=>sr λ_ J1=>XY (ints v.flat) λb1=>?_
 refine PS ?_;refine nx J1 (ab λ_ J2=>sr λ_ J3=>FA 0 eE aR ?_);refine LU 0 Y3 (bb v rfl) ?_;refine PS ?_;refine ao ?_ ?_<;>intro h7;refine PS ?_
 iterate 3 refine UT ?_
 refine P2 ?_
 iterate 3 refine UT ?_
 refine PS ?_;refine nx J3 (CY (sr λ_ J4=>PS ?_));refine nx J4 (ai (ae (WK [] (av rfl rfl ⟨congrArg Value.bool ?_,rfl⟩))));symm;rw[kM,ff];intro h;rw[ax,decide_eq_true_iff,decide_eq_true_iff]at h;omega;refine PS ?_;refine FA 1 eE aR ?_;refine LU 0 Y3 (jW v rfl) ?_;refine PS ?_;refine ao ?_ ?_<;>intro h11;refine P2 ?_
 iterate 3 refine UT ?_
 refine PS ?_;refine nx J3 (CY (sr λ_ J5=>PS ?_));refine nx J5 (ai (ae (WK [] (av rfl rfl ⟨congrArg Value.bool ?_,rfl⟩))));symm;rw[kM,ff];intro h;rw[ax,decide_eq_true_iff,decide_eq_true_iff]at h;omega;refine P2 ?_;refine FA 1 eE aR ?_;refine LU 0 Y3 (jW v rfl) ?_;refine PS ?_;refine ao ?_ ?_<;>intro h16;refine PS ?_;refine nx J3 (CY (sr λ_ J6=>PS ?_));refine nx J6 (ai (ae (WK [] (av rfl rfl ⟨congrArg Value.bool ?_,rfl⟩))));symm;rw[kM,ff];intro h;rw[ax,decide_eq_true_iff,decide_eq_true_iff]at h;omega;refine PS ?_;refine nx J3 (CN (qx J2 (ab λ_ J7=>sr λ_ J8=>FA 2 eE eV ?_)));refine tp (aM (vs:=ints v.heirs.toList) rfl jK rfl eV rfl (RO 0) (di v.heirs) (ViewT.sub_heirs v 0 rfl (by decide) (whole (di v.heirs)))) ?_;refine PS ?_;refine nx J8 (au ?_)
 refine bu (α:=(Nat)) (λi=>i≤5∧∀(j:Nat) (h:j<5),j<i→Mz v v.heirs[j] j=true) (λi=>[(1,(.pointer (some ⟨b1,0,none⟩))),(19,(.agg (ints v.heirs.toList).toArray)),(20,(.int .i64 (((i:Nat):Int))))]) (λi=>[ah b1 (ints v.flat) 32]) (λi=>5-i) 0
     ⟨aN _,λj h hj=>absurd hj (by omega)⟩ SB
     (λ_ s=>s) (λi hinv=>?_)
 obtain⟨hi,ho⟩:=hinv;have hhi:=λh:i<5=>hh i h
 refine sr λ_ J9=>PS ?_
 refine ao ?_ ?_<;>intro h21;replace hhi:=hhi (by omega);refine nx J9 (ab λ_ J10=>CY (qx J10 (ab λ_ J11=>au (sr λ_ J12=>PS ?_))));refine tp (nB (cs:=ints v.heirs.toList) (v:=Value.int .i64 (v.heirs[i]'(by omega))) (r:=i) rfl jK Y3 rfl aR rfl rfl (by omega) (by omega) (by omega) (kl v.heirs (by omega))) ?_;refine P2 ?_;refine nx J12 (sr λ_ J13=>P2 ?_);refine ao ?_ ?_<;>intro h25;refine PS ?_;refine LW 0 eE bf am ?_;refine PS ?_;refine tq (ix rfl rfl rfl (bF (by omega) (by omega))) ?_;refine CE p9 (dD v ((v.heirs[i]'(by omega))-1)) ID ?_;refine bc ?_ ?_<;>intro h30;refine PS ?_;refine PS ?_;refine LW 0 eE bf am ?_;refine PS ?_;refine CE p9 (dD v ((i:Nat):Int)) ID ?_;refine bc ?_ ?_<;>intro h35;refine P2 ?_;refine nx J13 (CY (sr λ_ J14=>PS ?_));refine nx J14 (ai (aH (ae (ae (aH (ae (WK [] (av rfl rfl ⟨congrArg Value.bool ?_,rfl⟩))))))));symm;rw[kM,ff];intro h;rw[ax,decide_eq_true_iff,decide_eq_true_iff]at h;have h:=h.2 i (by omega);unfold Mz at h;rw[Nf,decide_eq_true_iff,ax]at h;rw[h35]at h;exact h.elim h25 λq=>absurd q.2 (by decide)
 refine P2 ?_;refine nx J13 (CN (aT (ag (ac J11 (ad (AD ?_))))));refine PS ?_;refine aq ?_
 exact aJ ((i+1):(Nat)) ⟨by omega,λj h hj=>by
        by_cases q:j=i
        · subst q;unfold Mz;simp_all
        · exact ho j h (by omega)⟩ (by show 5- (i+1)<5-i;omega)
   SB
   (λ_ s=>s)
 refine PS ?_;refine PS ?_
 iterate 3 refine UT ?_
 refine P2 ?_;refine nx J13 (CY (sr λ_ J15=>PS ?_));refine nx J15 (ai (aH (ae (ae (aH (ae (WK [] (av rfl rfl ⟨congrArg Value.bool ?_,rfl⟩))))))));symm;rw[kM,ff];intro h;rw[ax,decide_eq_true_iff,decide_eq_true_iff]at h;have h:=h.2 i (by omega);unfold Mz at h;rw[Nf,decide_eq_true_iff,ax]at h;rw[h30]at h;exact h.elim h25 λq=>absurd q.1 (by decide)
 refine PS ?_
 iterate 6 refine UF ?_
 refine TL.unmetU rfl rfl rfl rfl (lb rfl) (TL.unmetU rfl rfl rfl rfl (lb rfl) (TL.unmetU rfl rfl rfl rfl (lb rfl) (UF ?_)));refine PS ?_;refine nx J13 (CN (aT (ag (ac J11 (ad (AD ?_))))));refine PS ?_;refine aq ?_
 exact aJ ((i+1):(Nat)) ⟨by omega,λj h hj=>by
        by_cases q:j=i
        · subst q;unfold Mz;simp_all
        · exact ho j h (by omega)⟩ (by show 5- (i+1)<5-i;omega)
   SB
   (λ_ s=>s)
 refine nx J9 (ab λ_ J16=>CN (aY (aC (aC (bo (ac J7 (sr λ_ J17=>PS ?_)))))));refine nx J17 (ai (WK [] (av rfl rfl ?_)));exact⟨congrArg Value.bool (by symm;rw[kM,ax,decide_eq_true_iff,decide_eq_true_iff];exact⟨by omega,λj h=>ho j h (by omega)⟩),rfl⟩
theorem qM(v:ViewT)(w:Int)(hh:Rng v):
 DT 61 #[(.agg (ints v.flat).toArray),(.int .i64 (w))] T0 [] (RI (.tuple #[.int .i64 ((jE v w).getD 0), .bool (jE v w).isSome]) []):=by
 refine BD 21 Tryz.func61 rfl rfl rfl λw0 F hF=>sr λ_ J1=>XY (ints v.flat) λb2=>?_
 refine P2 ?_;refine nx J1 (ab λ_ J2=>sr λ_ J3=>PS ?_);refine CE Ck (jM w) ID ?_;refine bc ?_ ?_<;>intro h7;have hm:0≤w∧w<5:=of_decide_eq_true h7;have hb:=hh w.toNat (by omega);refine PS ?_;refine P2 ?_;refine FA 2 eE eV ?_;refine IX (2+w.toNat) jK aR ?_;refine LT 0 Y3 (.int .i64 ((v.heirs[w.toNat]'(by omega)))) ?_ (hc:=by exact ViewT.pt_heirs v (w.toNat) (by omega) (by omega) (kl v.heirs (by omega)));refine PS ?_;refine ao ?_ ?_<;>intro h14;refine PS ?_;refine nx J3 (CY (sr λ_ J4=>P2 ?_));refine nx J4 (ai (ae (WK [] (gQ rfl rfl rfl ?_))));exact⟨by rw[jE,dif_pos hm,if_pos h14];rfl,rfl⟩;refine PS ?_;refine nx J3 (CN (qx J2 (sr λ_ J5=>PS ?_)));refine FA 2 eE eV ?_;refine IX (2+w.toNat) jK aR ?_;refine LT 0 Y3 (.int .i64 ((v.heirs[w.toNat]'(by omega)))) ?_ (hc:=by exact ViewT.pt_heirs v (w.toNat) (by omega) (by omega) (kl v.heirs (by omega)));refine tp (ix rfl rfl rfl (bF (by omega) (by omega))) ?_;refine P2 ?_;refine nx J5 (ai (WK [] (gQ rfl rfl rfl ?_)));exact⟨by rw[jE,dif_pos hm,if_neg h14];rfl,rfl⟩;refine PS ?_;refine PS ?_
 iterate 5 refine UT ?_
 refine PS ?_;refine nx J3 (CY (sr λ_ J6=>P2 ?_));refine nx J6 (ai (ae (WK [] (gQ rfl rfl rfl ?_))));exact⟨by rw[jE,dif_neg (of_decide_eq_false h7)];rfl,rfl⟩
theorem dx(v:ViewT)(c:ChangeT)(hh:Rng v):
    DT 90 #[(.agg (ints v.flat).toArray),(.agg (ints c.flat).toArray)] T0 [] (RI (.tuple #[.agg (ints (dL v c).1.flat).toArray, .int .i64 (dL v c).2]) []):=by
 refine BD 106 Tryz.func90 rfl rfl rfl λw0 F hF=>sr λ_ J1=>XY (ints v.flat) λb2=>?_
 refine XY (ints c.flat) λb3=>?_
 refine XZ se (ints ViewT.zero.flat) λb4=>?_
 refine PS ?_;refine nx J1 (ab λ_ J2=>sr λ_ J3=>FA 1 na aR ?_);refine LU 1 Y3 (iz c rfl) ?_;refine CE Ck (jM c.who) ID ?_;refine bc ?_ ?_<;>intro h12;have hm1:0≤c.who∧c.who<5:=of_decide_eq_true h12;refine PS ?_;refine PS ?_;refine FA 2 na aR ?_;refine LU 1 Y3 (qV c rfl) ?_;refine CE Ck (jM c.heir) ID ?_;refine bc ?_ ?_<;>intro h17;have hm2:0≤c.heir∧c.heir<5:=of_decide_eq_true h17;refine PS ?_;refine PS ?_;refine nx J3 (CN (qx J2 (ab λ_ J4=>sr λ_ J5=>FA 0 na aR ?_)));refine LU 1 Y3 (ChangeT.at_kind c rfl) ?_;refine nx J5 (au (sr λ_ J6=>PS ?_));refine ao ?_ ?_<;>intro h25;refine PS ?_;refine nx J6 (CY (ab λ_ J7=>sr λ_ J8=>LW 2 eE bf am ?_));refine FA 1 na aR ?_;refine LU 1 Y3 (iz c rfl) ?_;refine CE KH (qM v c.who hh) ID ?_;refine P3 ?_;refine bc ?_ ?_<;>intro h32;refine P2 ?_;refine nx J8 (sr λ_ J9=>P2 ?_)
 iterate 4 refine UT ?_
 refine PS ?_;refine nx J9 (CY (sr λ_ J10=>BV ((ints ViewT.zero.flat).toArray) ?_));refine SW 0 bf am ?_;refine PS ?_;refine nx J10 (ai (ae (aH (ae (RT 0 [] eE bf (am _) ?_)))));exact⟨by simp_all [dL],rfl⟩;refine P2 ?_;refine nx J8 (sr λ_ J11=>P2 ?_);refine LW 2 eE bf am ?_;refine FA 1 na aR ?_;refine LU 1 Y3 (iz c rfl) ?_;refine CE p9 (dD v c.who) ID ?_;refine bc ?_ ?_<;>intro h38;refine PS ?_;refine nx J11 (CY (sr λ_ J12=>BV ((ints ViewT.zero.flat).toArray) ?_));refine SW 0 bf am ?_;refine PS ?_;refine nx J12 (ai (ae (aH (ae (RT 0 [] eE bf (am _) ?_)))));exact⟨by simp_all [dL],rfl⟩;refine PS ?_;refine nx J11 (CN (qx J7 (D1 1 mixed ?_)));refine FD 0 1 eE aR ?_;refine FD 2 1 na aR ?_;refine LR 3 Y3 (iz c rfl) ?_;refine ta 4 rfl (yJ (r:=(2^c.who.toNat)) rfl rfl rfl (by omega) (Fz hm1)) ?_;refine AL 1 ?_;refine LU 2 Y3 (jW v rfl) ?_;refine EN (ta 5 rfl (JS (r:=(iF .i64 v.members (2^c.who.toNat))) rfl rfl rfl rfl) ?_);refine FD 6 1 eE aR ?_;refine AL 7 ?_;refine bw (i:=2) (aa rfl) rfl rfl rfl rfl rfl aR rfl rfl (LB (am _)) (ViewT.set_members v rfl _) rfl (EN (DN (ag (ac J4 (sr λ_ J13=>FA 0 eE aR ?_)))));refine LT 2 Y3 (.int .i64 (v.epoch)) ?_ (hc:=by exact bb _ rfl);refine tp (cq (r:=(IntKind.i64.wrap (v.epoch+1))) rfl rfl rfl rfl) ?_;refine FA 0 eE aR ?_;refine bw (i:=2) (aa rfl) rfl rfl rfl rfl rfl aR rfl rfl (LB (am _)) (ViewT.set_epoch _ rfl _) rfl (nx J13 (sr λ_ J14=>LW 2 eE bf am ?_));refine SW 0 bf am ?_;refine PS ?_
 refine nx J14 (ai (RT 0 [] eE bf (am _) ?_));exact⟨by simp_all [dL],rfl⟩;refine PS ?_;refine nx J6 (CN (sr λ_ J15=>PS ?_));refine ao ?_ ?_<;>intro h49;refine PS ?_;refine nx J15 (CY (ab λ_ J16=>sr λ_ J17=>LW 2 eE bf am ?_));refine FA 1 na aR ?_;refine LU 1 Y3 (iz c rfl) ?_;refine CE p9 (dD v c.who) ID ?_;refine bc ?_ ?_<;>intro h53;refine PS ?_;refine PS ?_;refine LW 2 eE bf am ?_;refine FA 2 na aR ?_;refine LU 1 Y3 (qV c rfl) ?_;refine CE p9 (dD v c.heir) ID ?_;refine bc ?_ ?_<;>intro h59;refine PS ?_;refine P2 ?_;refine FA 2 na aR ?_;refine LU 1 Y3 (qV c rfl) ?_;refine FA 1 na aR ?_;refine LU 1 Y3 (iz c rfl) ?_;refine PS ?_;refine ao ?_ ?_<;>intro h67;refine PS ?_;refine nx J17 (CY (sr λ_ J18=>BV ((ints ViewT.zero.flat).toArray) ?_));refine SW 0 bf am ?_;refine PS ?_;refine nx J18 (ai (ae (aH (ae (RT 0 [] eE bf (am _) ?_)))));exact⟨by simp_all [dL],rfl⟩;refine PS ?_;refine nx J17 (CN (qx J16 (ab λ_ J19=>D1 1 mixed ?_)));refine FD 0 1 eE aR ?_;refine FD 2 1 na aR ?_;refine LR 3 Y3 (iz c rfl) ?_;refine ta 4 rfl (yJ (r:=(2^c.who.toNat)) rfl rfl rfl (by omega) (Fz hm1)) ?_;refine AL 1 ?_;refine LU 2 Y3 (jW v rfl) ?_;refine EN (ta 5 rfl (PV.andNot (r:=(mA .i64 v.members (2^c.who.toNat))) rfl rfl rfl rfl) ?_);refine FD 6 1 eE aR ?_;refine AL 7 ?_;refine bw (i:=2) (aa rfl) rfl rfl rfl rfl rfl aR rfl rfl (LB (am _)) (ViewT.set_members v rfl _) rfl (EN (DN (ac J19 (sr λ_ J20=>FA 2 eE eV ?_))))
 refine tp (aM (vs:=ints v.heirs.toList) rfl jK rfl eV rfl (RO 2) (di v.heirs) (ViewT.sub_heirs (ViewT.mk v.epoch (mA .i64 v.members (2^c.who.toNat)) v.heirs) 0 rfl (by decide) (whole (di v.heirs)))) ?_;refine PS ?_;refine nx J20 (au ?_)
 refine bu (α:=(Nat)×(Vector Int 5)) (λ⟨i,hs⟩=>i≤5∧∀(j:Nat) (h:j<5),hs[j]=if j<i then tZ c j v.heirs[j]else v.heirs[j]) (λ⟨i,hs⟩=>[(2,(.pointer (some ⟨b2,0,none⟩))),(3,(.pointer (some ⟨b3,0,none⟩))),(4,(.pointer (some ⟨b4,0,none⟩))),(5,(.int .i64 0)),(78,(.agg (ints v.heirs.toList).toArray)),(79,(.int .i64 (((i:Nat):Int))))]) (λ⟨i,hs⟩=>[ah b4 (ints ViewT.zero.flat) 32,ah b3 (ints c.flat) 61,ah b2 (ints (ViewT.mk v.epoch (mA .i64 v.members (2^c.who.toNat)) hs).flat) 32]) (λ⟨i,hs⟩=>5-i) (0,v.heirs)
     ⟨aN _,λj h=>by rw[if_neg (by omega)]⟩ SB
     (λ_ s=>s) (λ⟨i,hs⟩ hinv=>?_)
 obtain⟨hi,ho⟩:=hinv;refine sr λ_ J21=>PS ?_
 refine ao ?_ ?_<;>intro h80;refine nx J21 (ab λ_ J22=>CY (qx J22 (ab λ_ J23=>au (sr λ_ J24=>PS ?_))));refine tp (nB (cs:=ints v.heirs.toList) (v:=Value.int .i64 (v.heirs[i]'(by omega))) (r:=i) rfl jK Y3 rfl aR rfl rfl (by omega) (by omega) (by omega) (kl v.heirs (by omega))) ?_;refine P2 ?_;refine nx J24 (sr λ_ J25=>PS ?_);refine FA 1 na aR ?_;refine LU 1 Y3 (iz c rfl) ?_;refine PS ?_;refine ao ?_ ?_<;>intro h86;refine PS ?_
 iterate 5 refine UT ?_
 refine PS ?_;refine nx J25 (CY (ad (PS ?_)));refine FA 2 na aR ?_;refine LU 1 Y3 (qV c rfl) ?_;refine AD ?_;refine FA 2 eE eV ?_;refine IX (2+i) jK aR ?_;refine bw (i:=2) (aa rfl) rfl rfl rfl rfl rfl aR rfl rfl (LB (am _)) (ViewT.st_heirs (ViewT.mk v.epoch (mA .i64 v.members (2^c.who.toNat)) hs) i (by omega) (by omega) (yW hs (by omega) _)) rfl (aq (ag (ac J23 (ad (AD ?_)))));refine PS ?_;refine aq ?_
 exact aJ ((i+1,hs.set i (c.heir+1) (by omega)):(Nat)×(Vector Int 5)) ⟨by omega,λj h=>by
        rw[Vector.getElem_set]
        by_cases q:j=i
        · subst q;rw[if_pos rfl,if_pos (by omega),tZ,if_pos (by omega)]
        · rw[if_neg (by omega),ho j h]
          by_cases q2:j<i
          · rw[if_pos q2,if_pos (by omega)]
          · rw[if_neg q2,if_neg (by omega)]⟩ (by show 5- (i+1)<5-i;omega)
   SB
   (λ_ s=>s)
 refine P2 ?_;refine FA 1 na aR ?_;refine LU 1 Y3 (iz c rfl) ?_;refine tq (cq rfl rfl rfl (bF (by omega) (by omega))) ?_;refine PS ?_;refine ao ?_ ?_<;>intro h92;refine PS ?_;refine nx J25 (CY (ad (PS ?_)));refine FA 2 na aR ?_;refine LU 1 Y3 (qV c rfl) ?_;refine AD ?_;refine FA 2 eE eV ?_;refine IX (2+i) jK aR ?_;refine bw (i:=2) (aa rfl) rfl rfl rfl rfl rfl aR rfl rfl (LB (am _)) (ViewT.st_heirs (ViewT.mk v.epoch (mA .i64 v.members (2^c.who.toNat)) hs) i (by omega) (by omega) (yW hs (by omega) _)) rfl (aq (ag (ac J23 (ad (AD ?_)))));refine PS ?_;refine aq ?_
 exact aJ ((i+1,hs.set i (c.heir+1) (by omega)):(Nat)×(Vector Int 5)) ⟨by omega,λj h=>by
        rw[Vector.getElem_set]
        by_cases q:j=i
        · subst q;rw[if_pos rfl,if_pos (by omega),tZ,if_pos (by omega)]
        · rw[if_neg (by omega),ho j h]
          by_cases q2:j<i
          · rw[if_pos q2,if_pos (by omega)]
          · rw[if_neg q2,if_neg (by omega)]⟩ (by show 5- (i+1)<5-i;omega)
   SB
   (λ_ s=>s)
 refine PS ?_;refine nx J25 (CN (aT (ag (ac J23 (ad (AD ?_))))));refine PS ?_;refine aq ?_
 exact aJ ((i+1,hs):(Nat)×(Vector Int 5)) ⟨by omega,λj h=>by
        rw[ho j h]
        by_cases q:j=i
        · subst q;rw[if_neg (by omega),if_pos (by omega),tZ,if_neg (by omega)]
        · by_cases q2:j<i
          · rw[if_pos q2,if_pos (by omega)]
          · rw[if_neg q2,if_neg (by omega)]⟩ (by show 5- (i+1)<5-i;omega)
   SB
   (λ_ s=>s)
 refine nx J21 (ab λ_ J26=>CN (aY (aC (aC (bo (ag (ac J4 (sr λ_ J27=>FA 0 eE aR ?_))))))));refine LT 2 Y3 (.int .i64 (v.epoch)) ?_ (hc:=by exact bb _ rfl);refine tp (cq (r:=(IntKind.i64.wrap (v.epoch+1))) rfl rfl rfl rfl) ?_;refine FA 0 eE aR ?_;refine bw (i:=2) (aa rfl) rfl rfl rfl rfl rfl aR rfl rfl (LB (am _)) (ViewT.set_epoch _ rfl _) rfl (nx J27 (sr λ_ J28=>LW 2 eE bf am ?_));refine SW 0 bf am ?_;refine PS ?_;refine nx J28 (ai (RT 0 [] eE bf (am _) ?_))
 have e:hs=rM v c:=by
   apply Vector.ext;intro j hj;rw[ho j hj,if_pos (by omega)];simp[rM]
 subst e;exact⟨by simp_all [dL],rfl⟩;refine PS ?_;refine P2 ?_
 iterate 5 refine UT ?_
 refine PS ?_;refine nx J17 (CY (sr λ_ J29=>BV ((ints ViewT.zero.flat).toArray) ?_));refine SW 0 bf am ?_;refine PS ?_;refine nx J29 (ai (ae (aH (ae (RT 0 [] eE bf (am _) ?_)))));exact⟨by simp_all [dL],rfl⟩;refine PS ?_;refine PS ?_
 iterate 5 refine UT ?_
 refine P2 ?_
 iterate 5 refine UT ?_
 refine PS ?_;refine nx J17 (CY (sr λ_ J30=>BV ((ints ViewT.zero.flat).toArray) ?_));refine SW 0 bf am ?_;refine PS ?_;refine nx J30 (ai (ae (aH (ae (RT 0 [] eE bf (am _) ?_)))));exact⟨by simp_all [dL],rfl⟩;refine PS ?_;refine nx J15 (CN (sr λ_ J31=>BV ((ints ViewT.zero.flat).toArray) ?_));refine SW 0 bf am ?_;refine PS ?_;refine nx J31 (ai (aH (ae (RT 0 [] eE bf (am _) ?_))));exact⟨by simp_all [dL],rfl⟩;refine PS ?_;refine PS ?_;refine nx J3 (CY (sr λ_ J32=>BV ((ints ViewT.zero.flat).toArray) ?_));refine SW 0 bf am ?_;refine PS ?_;refine nx J32 (ai (ae (RT 0 [] eE bf (am _) ?_)));exact⟨by simp_all [dL],rfl⟩;refine PS ?_;refine PS ?_
 iterate 4 refine UT ?_
 refine PS ?_;refine nx J3 (CY (sr λ_ J33=>BV ((ints ViewT.zero.flat).toArray) ?_));refine SW 0 bf am ?_;refine PS ?_;refine nx J33 (ai (ae (RT 0 [] eE bf (am _) ?_)));exact⟨by simp_all [dL],rfl⟩
end Go.Proofs.YtfocodjhmkokpaaGreatDoor
end

section
namespace Leg
open Go Codec Api
section
variable {P:Program} {w0:World} {F:Hl} {n:Nat} {ops:Array Oper} {Q:QQ} {D:List Deferred} {L:List (Nat×Value)} {H:List HP} {o:Oper} {l:List Oper} {d:Nat}
def dZ(c cap:Nat)(vs:List Value)(s r:Nat):HP:=x8 c (.chan cap vs.toArray false s r false)
theorem TL.makeChan{t e:TypeId}{dir:ChanDir}{x:Operand}{k bytes:Nat}(hw:Want n D ops o L)(ho:o.op= .makeChan t x)(hd:o.dst=some d)(hn:Nat.blt d n=true)(ht:P.underlying t=some (.chan dir e))(hi:(P.info? e).map (·.bytes)=some bytes)
 (hx:cA L x=some (.int .i64 ((k:Nat):Int))) (hb:bytes*k≤281474976710544) (hk:k≤9223372036854775807)
 (h: ∀c,TL P w0 F n ops Q l D ((d, .chan (some c))::L) (dZ c k [] 0 0::H)):TL P w0 F n ops Q (o::l) D L H:=
 ky hw λa w f s m=>by
  unfold Oper.wp;cases hi':P.info? e with
  |none=>rw[hi']at hi;cases hi
  |some i=>
   rw[hi']at hi;have hbb:i.bytes=bytes:=by simpa using hi
   have a1: ¬(((k:Nat):Int)<0):=by omega
   have a2: ¬(9223372036854775807< ((k:Nat):Int)):=by omega
   have a3: ¬(281474976710544< (i.bytes:Int)* ((k:Nat):Int)):=by
    have:(i.bytes:Int)* ((k:Nat):Int)≤281474976710544:=by rw[hbb,←Int.natCast_mul];exact Int.ofNat_le.2 hb
    omega
   have hc:(Instr.makeChan t (.int .i64 ((k:Nat):Int))).run P w= .ok (.chan (some w.heap.size)) (w.alloc (.chan k #[] false 0 0 false)):=by
    simp[Instr.makeChan,run_underlying ht,typeInfo,hi',asInt,asIntOf,IntKind.max,IntKind.signed,IntKind.bits,a1,a2,a3]
   have r:(execOp a.eval o).run P w= .ok (.value (.chan (some w.heap.size))) (w.alloc (.chan k #[] false 0 0 false)):=by
    simp[execOp,ho,f.eval hx,Sem.run_bind,hc]
   rw[r,Oper.upon_value,hd];exact h _ _ _ (f.put (lb hn) _) (s.trans ⟨rfl,rfl,rfl,by simp⟩) ((m.alloc _).mono λh s=>cB s (λ_ x=>x) λ_ x=>x)
end
def EF{α:Type}(f:α→List Int)(us:List Value)(x:α)(_:Hl):Prop:=us=ints (f x)
section
variable {α:Type} {f:α→List Int} {m:Nat}
theorem s4(hf: ∀x,(f x).length=m)(l:List α){i:Nat}(hi:i<l.length):((ints (l.flatMap f)).drop (i*m)).take m=ints (f l[i]):=by
 rw[vZ];have hl:=yV hf l;have:=hl.sub (s:=ints (f l[i])) i 0 m (by simp[hi]) (by simp[hi]) (sE m l.length i (by omega)) (cQ (bg m));rw[yN]at this;rw[this,aV,az (by rw[ints_length,hf];exact aK _)]
theorem xw(hf: ∀x,(f x).length=m)(l:List α):(ints (l.flatMap f)).length=l.length*m:=by
 rw[ints_length]
 induction l with
 |nil=>simp
 |cons x l ih=>rw[cS,af,ih,hf,an,fL];omega
theorem FY(hf: ∀x,(f x).length=m)(i:Nat){v:Value}{l:List α}{e:Nat}{B:List HP}{F:Hl}(hi:Nat.blt i B.length=true)(hH:B.getD i (λ_=>True)=own v l.length (ints (l.flatMap f)) e m): ∀g,Dj g F→bD B g→IsL m (EF f) v l (jn g F):=λg _ s=>by
 obtain⟨h1,h2,d',rfl,a,_⟩:=eB i (lb hi) s;rw[hH]at a;rcases a with⟨_,⟨h0,hn,_⟩| ⟨g,cap,cur,hv,hh,h3,h4,h5,h6⟩⟩
 · exact .inl ⟨h0,List.eq_nil_of_length_eq_zero hn⟩
 · refine .inr (.inr ⟨g,0,cap,cur.toList,e,(0,0),hv,h3,by simp only[maxLen]at h4;omega,gp (gp (by rw[hh];simp[sg])),λj hj=>⟨ints (f l[j]),by rw[ints_length,hf],?_,rfl⟩⟩)
   have hj2:j*m+m≤l.length*m:=by rw[←Qk];exact gI m hj
   rw[bg,←s4 hf l hj,←h6,j0,OQ,Nat.min_eq_left (by omega)]
end
section
variable {P:Program} {w0:World} {F:Hl} {n:Nat} {ops:Array Oper} {Q:QQ} {D:List Deferred} {L:List (Nat×Value)} {H:List HP} {o:Oper} {l:List Oper} {S:World→Prop}
end
def Arnd{α:Type}(cs c:α→List Value)(off:Nat):Prop:=∃A B,A.length=off∧∀x,cs x=A++(c x++B)
section
variable {α:Type} {cs c:α→List Value} {off o j k:Nat} {x x':α}
theorem Arnd.le(h:Arnd cs c off)(x:α):off+(c x).length≤(cs x).length:=by
 obtain⟨A,B,h1,h2⟩:=h;rw[h2,af,af];omega
theorem Arnd.at(h:Arnd cs c off)(ho:o=off+j)(hj:j< (c x).length){r:Option Value}(hr:(c x)[j]?=r):(cs x)[o]?=r:=by
 obtain⟨A,B,h1,h2⟩:=h;subst ho;subst h1;rw[h2,List.getElem?_append_right (by omega),cn,List.getElem?_append_left hj,hr]
theorem Arnd.sub(h:Arnd cs c off)(ho:o=off+j)(hj:j+k≤(c x).length){r:List Value}(hr:((c x).drop j).take k=r):((cs x).drop o).take k=r:=by
 obtain⟨A,B,h1,h2⟩:=h;subst ho;subst h1;rw[h2,←lW,Dv,kx (by omega),cu (by rw[bE];omega),hr]
abbrev O1:= @Arnd.sub
theorem Arnd.wr(h:Arnd cs c off){vs:List Value}(ho:o=off+j)(hj:j+vs.length≤(c x).length)(hw:Leg.wr (c x) j vs=c x'):Leg.wr (cs x) o vs=cs x':=by
 obtain⟨A,B,h1,h2⟩:=h;subst ho;subst h1;rw[h2,h2,eu (by omega),cn,gU hj,hw]
theorem Arnd.set(h:Arnd cs c off){v:Value}(ho:o=off+j)(hj:j< (c x).length)(hw:(c x).set j v=c x'):(cs x).set o v=cs x':=by
 obtain⟨A,B,h1,h2⟩:=h;subst ho;subst h1;rw[h2,h2,gl _ _ (by omega),cn,qz _ _ hj,hw]
theorem Arnd.whole:Arnd c c 0:=⟨[],[],rfl,λx=>by simp⟩
end
end Leg
namespace Api
open Go Leg Codec
def om(l:List Bool):List Value:=l.map .bool
theorem Ls{n:Nat}(v:Vector Bool n){i:Nat}(h:i<n):(om v.toList)[i]?=some (.bool v[i]):=by simp[om,h]
theorem Nq{n:Nat}(v:Vector Bool n){i:Nat}(h:i<n)(x:Bool):(om v.toList).set i (.bool x)=om (v.set i x h).toList:=by rw[rm];simp[om,yO]
theorem zR(v:Vector RowT 5):(ints (v.toList.flatMap RowT.flat)).length=870:=by rw[xw dA];simp
theorem Kg(v:Vector CellT 5):(ints (v.toList.flatMap CellT.flat)).length=35:=by rw[xw bv];simp
structure AccT where
 epoch:Int
 vow:BallotT
 had:BallotT
 change:ChangeT
def AccT.zero:AccT:=⟨0, .zero, .zero, .zero⟩
def AccT.flat(m:AccT):List Int:=([m.epoch])++(m.vow.flat)++(m.had.flat)++(m.change.flat)
structure SaidT where
 to':Int
 msg:MsgT
structure BookT where
 rows:Vector RowT 5
def BookT.zero:BookT:=⟨#v[RowT.zero,RowT.zero,RowT.zero,RowT.zero,RowT.zero]⟩
def BookT.flat(m:BookT):List Int:=(m.rows.toList.flatMap RowT.flat)
structure MirT where
 rows:Vector RowT 5
 sealed:Vector Bool 5
def MirT.zero:MirT:=⟨#v[RowT.zero,RowT.zero,RowT.zero,RowT.zero,RowT.zero], #v[false,false,false,false,false]⟩
def MirT.cells(m:MirT):List Value:=[ints (m.rows.toList.flatMap RowT.flat),om m.sealed.toList].flatten
structure VoteT where
 view:ViewT
 ballot:BallotT
 change:ChangeT
 best:BallotT
 vowed:Int
 took:Int
 putting:Bool
def VoteT.zero:VoteT:=⟨.zero, .zero, .zero, .zero,0,0,false⟩
def VoteT.cells(m:VoteT):List Value:=[ints m.view.flat,ints m.ballot.flat,ints m.change.flat,ints m.best.flat,[Value.int .i64 m.vowed],[Value.int .i64 m.took],[Value.bool m.putting]].flatten
structure RepT where
 id:Int
 log:Value
 view:ViewT
 own:RowT
 mirror:MirT
 acc:AccT
 round:Int
 vote:Value
 book:BookT
 busy:Bool
 kept:Int
 waits:Int
 ops:Int
 replies:Value
 told:Vector Int 5
 last:Vector RowT 5
def RepT.cells(m:RepT):List Value:=[[Value.int .i64 m.id],[m.log],ints m.view.flat,ints m.own.flat,MirT.cells m.mirror,ints m.acc.flat,[Value.int .i64 m.round],[m.vote],ints m.book.flat,[Value.bool m.busy],[Value.int .i64 m.kept],[Value.int .i64 m.waits],[Value.int .i64 m.ops],[m.replies],ints m.told.toList,ints (m.last.toList.flatMap RowT.flat)].flatten
theorem AccT.sl(m:AccT):SL [[Value.int .i64 m.epoch],ints m.vow.flat,ints m.had.flat,ints m.change.flat] [1,2,2,3]:=(.cons rfl (.cons (ap _) (.cons (ap _) (.cons (aI _) .nil))))
abbrev DF:= @AccT.sl
abbrev AccT.sg(m:AccT):List (List Value):=[[Value.int .i64 m.epoch],ints m.vow.flat,ints m.had.flat,ints m.change.flat]
theorem AccT.eq(m:AccT):ints m.flat=[[Value.int .i64 m.epoch],ints m.vow.flat,ints m.had.flat,ints m.change.flat].flatten:=by simp[AccT.flat,ints]
abbrev oz:= @AccT.eq
theorem AccT.len(m:AccT):(ints m.flat).length=8:=by rw[oz,(DF m).len];rfl
abbrev a8:= @AccT.len
theorem AccT.at_epoch(m:AccT){o:Nat}(ho:o=0):(ints m.flat)[o]?=some (Value.int .i64 m.epoch):=by subst ho;rw[oz];exact(DF m).at (off:=0) 0 0 rfl rfl (by simp) (by decide)
theorem AccT.sub_vow(m:AccT){o k:Nat}(j:Nat)(ho:o=1+j)(h:j+k≤2){r:List Value}(hr:((ints m.vow.flat).drop j).take k=r):((ints m.flat).drop o).take k=r:=by subst ho;rw[←hr,oz];exact(DF m).sub (off:=1) 1 j k rfl rfl (by simp) h
abbrev Qo:= @AccT.sub_vow
theorem AccT.wr_vow_(m:AccT){o:Nat}(j:Nat){vs:List Value}{u':BallotT}(ho:o=1+j)(h:j+vs.length≤2)(hw:wr (ints m.vow.flat) j vs=ints u'.flat):wr (ints m.flat) o vs=ints ({m with vow:=u'}:AccT).flat:=by subst ho;rw[oz,oz];exact(DF m).putIn (off:=1) 1 j vs rfl rfl (by simp) h hw
abbrev Qn:= @AccT.wr_vow_
theorem AccT.sp_vow(m:AccT):((ints m.flat).drop 1).take 2=ints m.vow.flat:=Qo m 0 rfl (by decide) (whole ((ap _):(ints m.vow.flat).length=2))
theorem AccT.wp_vow(m:AccT)(u:BallotT):wr (ints m.flat) 1 (ints u.flat)=ints ({m with vow:=u}:AccT).flat:=Qn m 0 rfl (by rw[bg];exact cQ ((ap _):(ints u.flat).length=2)) (cr (Eq.trans ((ap _):(ints m.vow.flat).length=2) (Eq.symm ((ap _):(ints u.flat).length=2))))
theorem AccT.sub_had(m:AccT){o k:Nat}(j:Nat)(ho:o=3+j)(h:j+k≤2){r:List Value}(hr:((ints m.had.flat).drop j).take k=r):((ints m.flat).drop o).take k=r:=by subst ho;rw[←hr,oz];exact(DF m).sub (off:=3) 2 j k rfl rfl (by simp) h
theorem AccT.wr_had_(m:AccT){o:Nat}(j:Nat){vs:List Value}{u':BallotT}(ho:o=3+j)(h:j+vs.length≤2)(hw:wr (ints m.had.flat) j vs=ints u'.flat):wr (ints m.flat) o vs=ints ({m with had:=u'}:AccT).flat:=by subst ho;rw[oz,oz];exact(DF m).putIn (off:=3) 2 j vs rfl rfl (by simp) h hw
theorem AccT.sp_had(m:AccT):((ints m.flat).drop 3).take 2=ints m.had.flat:=AccT.sub_had m 0 rfl (by decide) (whole ((ap _):(ints m.had.flat).length=2))
theorem AccT.wp_had(m:AccT)(u:BallotT):wr (ints m.flat) 3 (ints u.flat)=ints ({m with had:=u}:AccT).flat:=AccT.wr_had_ m 0 rfl (by rw[bg];exact cQ ((ap _):(ints u.flat).length=2)) (cr (Eq.trans ((ap _):(ints m.had.flat).length=2) (Eq.symm ((ap _):(ints u.flat).length=2))))
theorem AccT.sub_change(m:AccT){o k:Nat}(j:Nat)(ho:o=5+j)(h:j+k≤3){r:List Value}(hr:((ints m.change.flat).drop j).take k=r):((ints m.flat).drop o).take k=r:=by subst ho;rw[←hr,oz];exact(DF m).sub (off:=5) 3 j k rfl rfl (by simp) h
theorem AccT.wr_change_(m:AccT){o:Nat}(j:Nat){vs:List Value}{u':ChangeT}(ho:o=5+j)(h:j+vs.length≤3)(hw:wr (ints m.change.flat) j vs=ints u'.flat):wr (ints m.flat) o vs=ints ({m with change:=u'}:AccT).flat:=by subst ho;rw[oz,oz];exact(DF m).putIn (off:=5) 3 j vs rfl rfl (by simp) h hw
theorem AccT.sp_change(m:AccT):((ints m.flat).drop 5).take 3=ints m.change.flat:=AccT.sub_change m 0 rfl (by decide) (whole ((aI _):(ints m.change.flat).length=3))
theorem AccT.wp_change(m:AccT)(u:ChangeT):wr (ints m.flat) 5 (ints u.flat)=ints ({m with change:=u}:AccT).flat:=AccT.wr_change_ m 0 rfl (by rw[bg];exact cQ ((aI _):(ints u.flat).length=3)) (cr (Eq.trans ((aI _):(ints m.change.flat).length=3) (Eq.symm ((aI _):(ints u.flat).length=3))))
abbrev SaidT.sg(m:SaidT):List (List Value):=[[Value.int .i64 m.to'],ints m.msg.flat]
theorem BookT.sl(m:BookT):SL [ints (m.rows.toList.flatMap RowT.flat)] [870]:=(.cons (zR _) .nil)
abbrev BookT.sg(m:BookT):List (List Value):=[ints (m.rows.toList.flatMap RowT.flat)]
theorem BookT.eq(m:BookT):ints m.flat=[ints (m.rows.toList.flatMap RowT.flat)].flatten:=by simp[BookT.flat,ints]
abbrev OY:= @BookT.eq
theorem BookT.len(m:BookT):(ints m.flat).length=870:=by rw[OY,(BookT.sl m).len];rfl
abbrev x7:= @BookT.len
theorem BookT.pt_rows(m:BookT){o:Nat}(j:Nat)(ho:o=0+j)(h:j<870){r:Option Value}(hr:(ints (m.rows.toList.flatMap RowT.flat))[j]?=r):(ints m.flat)[o]?=r:=by subst ho;rw[←hr,OY];exact(BookT.sl m).at (off:=0) 0 j rfl rfl (by simp) h
theorem BookT.sub_rows(m:BookT){o k:Nat}(j:Nat)(ho:o=0+j)(h:j+k≤870){r:List Value}(hr:((ints (m.rows.toList.flatMap RowT.flat)).drop j).take k=r):((ints m.flat).drop o).take k=r:=by subst ho;rw[←hr,OY];exact(BookT.sl m).sub (off:=0) 0 j k rfl rfl (by simp) h
abbrev OX:= @BookT.sub_rows
theorem BookT.wr_rows_(m:BookT){o:Nat}(j:Nat){vs:List Value}{u':Vector RowT 5}(ho:o=0+j)(h:j+vs.length≤870)(hw:wr (ints (m.rows.toList.flatMap RowT.flat)) j vs=ints (u'.toList.flatMap RowT.flat)):wr (ints m.flat) o vs=ints ({m with rows:=u'}:BookT).flat:=by subst ho;rw[OY,OY];exact(BookT.sl m).putIn (off:=0) 0 j vs rfl rfl (by simp) h hw
theorem MirT.sl(m:MirT):SL [ints (m.rows.toList.flatMap RowT.flat),om m.sealed.toList] [870,5]:=(.cons (zR _) (.cons (by simp[om]) .nil))
abbrev Nk:= @MirT.sl
abbrev MirT.sg(m:MirT):List (List Value):=[ints (m.rows.toList.flatMap RowT.flat),om m.sealed.toList]
theorem MirT.eq(m:MirT):MirT.cells m=[ints (m.rows.toList.flatMap RowT.flat),om m.sealed.toList].flatten:=rfl
abbrev Dz:= @MirT.eq
theorem MirT.len(m:MirT):(MirT.cells m).length=875:=by rw[Dz,(Nk m).len];rfl
abbrev qy:= @MirT.len
theorem MirT.pt_rows(m:MirT){o:Nat}(j:Nat)(ho:o=0+j)(h:j<870){r:Option Value}(hr:(ints (m.rows.toList.flatMap RowT.flat))[j]?=r):(MirT.cells m)[o]?=r:=by subst ho;rw[←hr,Dz];exact(Nk m).at (off:=0) 0 j rfl rfl (by simp) h
theorem MirT.sub_rows(m:MirT){o k:Nat}(j:Nat)(ho:o=0+j)(h:j+k≤870){r:List Value}(hr:((ints (m.rows.toList.flatMap RowT.flat)).drop j).take k=r):((MirT.cells m).drop o).take k=r:=by subst ho;rw[←hr,Dz];exact(Nk m).sub (off:=0) 0 j k rfl rfl (by simp) h
theorem MirT.wr_rows_(m:MirT){o:Nat}(j:Nat){vs:List Value}{u':Vector RowT 5}(ho:o=0+j)(h:j+vs.length≤870)(hw:wr (ints (m.rows.toList.flatMap RowT.flat)) j vs=ints (u'.toList.flatMap RowT.flat)):wr (MirT.cells m) o vs=MirT.cells ({m with rows:=u'}:MirT):=by subst ho;rw[Dz,Dz];exact(Nk m).putIn (off:=0) 0 j vs rfl rfl (by simp) h hw
theorem MirT.pt_sealed(m:MirT){o:Nat}(j:Nat)(ho:o=870+j)(h:j<5){r:Option Value}(hr:(om m.sealed.toList)[j]?=r):(MirT.cells m)[o]?=r:=by subst ho;rw[←hr,Dz];exact(Nk m).at (off:=870) 1 j rfl rfl (by simp) h
theorem MirT.st_sealed(m:MirT){o:Nat}(j:Nat){v:Value}{u':Vector Bool 5}(ho:o=870+j)(h:j<5)(hw:(om m.sealed.toList).set j v=om u'.toList):(MirT.cells m).set o v=MirT.cells ({m with sealed:=u'}:MirT):=by subst ho;rw[Dz,Dz];exact((Nk m).set (off:=870) 1 j v rfl rfl (by simp) h).trans (by rw[hw];rfl)
theorem VoteT.sl(m:VoteT):SL [ints m.view.flat,ints m.ballot.flat,ints m.change.flat,ints m.best.flat,[Value.int .i64 m.vowed],[Value.int .i64 m.took],[Value.bool m.putting]] [7,2,3,2,1,1,1]:=(.cons (am _) (.cons (ap _) (.cons (aI _) (.cons (ap _) (.cons rfl (.cons rfl (.cons rfl .nil)))))))
abbrev jV:= @VoteT.sl
abbrev VoteT.sg(m:VoteT):List (List Value):=[ints m.view.flat,ints m.ballot.flat,ints m.change.flat,ints m.best.flat,[Value.int .i64 m.vowed],[Value.int .i64 m.took],[Value.bool m.putting]]
theorem VoteT.eq(m:VoteT):VoteT.cells m=[ints m.view.flat,ints m.ballot.flat,ints m.change.flat,ints m.best.flat,[Value.int .i64 m.vowed],[Value.int .i64 m.took],[Value.bool m.putting]].flatten:=rfl
abbrev fw:= @VoteT.eq
theorem VoteT.len(m:VoteT):(VoteT.cells m).length=17:=by rw[fw,(jV m).len];rfl
abbrev nA:= @VoteT.len
theorem VoteT.sub_view(m:VoteT){o k:Nat}(j:Nat)(ho:o=0+j)(h:j+k≤7){r:List Value}(hr:((ints m.view.flat).drop j).take k=r):((VoteT.cells m).drop o).take k=r:=by subst ho;rw[←hr,fw];exact(jV m).sub (off:=0) 0 j k rfl rfl (by simp) h
abbrev Dr:= @VoteT.sub_view
theorem VoteT.wr_view_(m:VoteT){o:Nat}(j:Nat){vs:List Value}{u':ViewT}(ho:o=0+j)(h:j+vs.length≤7)(hw:wr (ints m.view.flat) j vs=ints u'.flat):wr (VoteT.cells m) o vs=VoteT.cells ({m with view:=u'}:VoteT):=by subst ho;rw[fw,fw];exact(jV m).putIn (off:=0) 0 j vs rfl rfl (by simp) h hw
theorem VoteT.sp_view(m:VoteT):((VoteT.cells m).drop 0).take 7=ints m.view.flat:=Dr m 0 rfl (by decide) (whole ((am _):(ints m.view.flat).length=7))
abbrev pJ:= @VoteT.sp_view
theorem VoteT.wp_view(m:VoteT)(u:ViewT):wr (VoteT.cells m) 0 (ints u.flat)=VoteT.cells ({m with view:=u}:VoteT):=VoteT.wr_view_ m 0 rfl (by rw[bg];exact cQ ((am _):(ints u.flat).length=7)) (cr (Eq.trans ((am _):(ints m.view.flat).length=7) (Eq.symm ((am _):(ints u.flat).length=7))))
theorem VoteT.sub_ballot(m:VoteT){o k:Nat}(j:Nat)(ho:o=7+j)(h:j+k≤2){r:List Value}(hr:((ints m.ballot.flat).drop j).take k=r):((VoteT.cells m).drop o).take k=r:=by subst ho;rw[←hr,fw];exact(jV m).sub (off:=7) 1 j k rfl rfl (by simp) h
abbrev Ll:= @VoteT.sub_ballot
theorem VoteT.wr_ballot_(m:VoteT){o:Nat}(j:Nat){vs:List Value}{u':BallotT}(ho:o=7+j)(h:j+vs.length≤2)(hw:wr (ints m.ballot.flat) j vs=ints u'.flat):wr (VoteT.cells m) o vs=VoteT.cells ({m with ballot:=u'}:VoteT):=by subst ho;rw[fw,fw];exact(jV m).putIn (off:=7) 1 j vs rfl rfl (by simp) h hw
theorem VoteT.sp_ballot(m:VoteT):((VoteT.cells m).drop 7).take 2=ints m.ballot.flat:=Ll m 0 rfl (by decide) (whole ((ap _):(ints m.ballot.flat).length=2))
theorem VoteT.wp_ballot(m:VoteT)(u:BallotT):wr (VoteT.cells m) 7 (ints u.flat)=VoteT.cells ({m with ballot:=u}:VoteT):=VoteT.wr_ballot_ m 0 rfl (by rw[bg];exact cQ ((ap _):(ints u.flat).length=2)) (cr (Eq.trans ((ap _):(ints m.ballot.flat).length=2) (Eq.symm ((ap _):(ints u.flat).length=2))))
theorem VoteT.sub_change(m:VoteT){o k:Nat}(j:Nat)(ho:o=9+j)(h:j+k≤3){r:List Value}(hr:((ints m.change.flat).drop j).take k=r):((VoteT.cells m).drop o).take k=r:=by subst ho;rw[←hr,fw];exact(jV m).sub (off:=9) 2 j k rfl rfl (by simp) h
theorem VoteT.wr_change_(m:VoteT){o:Nat}(j:Nat){vs:List Value}{u':ChangeT}(ho:o=9+j)(h:j+vs.length≤3)(hw:wr (ints m.change.flat) j vs=ints u'.flat):wr (VoteT.cells m) o vs=VoteT.cells ({m with change:=u'}:VoteT):=by subst ho;rw[fw,fw];exact(jV m).putIn (off:=9) 2 j vs rfl rfl (by simp) h hw
theorem VoteT.sp_change(m:VoteT):((VoteT.cells m).drop 9).take 3=ints m.change.flat:=VoteT.sub_change m 0 rfl (by decide) (whole ((aI _):(ints m.change.flat).length=3))
theorem VoteT.wp_change(m:VoteT)(u:ChangeT):wr (VoteT.cells m) 9 (ints u.flat)=VoteT.cells ({m with change:=u}:VoteT):=VoteT.wr_change_ m 0 rfl (by rw[bg];exact cQ ((aI _):(ints u.flat).length=3)) (cr (Eq.trans ((aI _):(ints m.change.flat).length=3) (Eq.symm ((aI _):(ints u.flat).length=3))))
theorem VoteT.sub_best(m:VoteT){o k:Nat}(j:Nat)(ho:o=12+j)(h:j+k≤2){r:List Value}(hr:((ints m.best.flat).drop j).take k=r):((VoteT.cells m).drop o).take k=r:=by subst ho;rw[←hr,fw];exact(jV m).sub (off:=12) 3 j k rfl rfl (by simp) h
theorem VoteT.wr_best_(m:VoteT){o:Nat}(j:Nat){vs:List Value}{u':BallotT}(ho:o=12+j)(h:j+vs.length≤2)(hw:wr (ints m.best.flat) j vs=ints u'.flat):wr (VoteT.cells m) o vs=VoteT.cells ({m with best:=u'}:VoteT):=by subst ho;rw[fw,fw];exact(jV m).putIn (off:=12) 3 j vs rfl rfl (by simp) h hw
theorem VoteT.sp_best(m:VoteT):((VoteT.cells m).drop 12).take 2=ints m.best.flat:=VoteT.sub_best m 0 rfl (by decide) (whole ((ap _):(ints m.best.flat).length=2))
theorem VoteT.wp_best(m:VoteT)(u:BallotT):wr (VoteT.cells m) 12 (ints u.flat)=VoteT.cells ({m with best:=u}:VoteT):=VoteT.wr_best_ m 0 rfl (by rw[bg];exact cQ ((ap _):(ints u.flat).length=2)) (cr (Eq.trans ((ap _):(ints m.best.flat).length=2) (Eq.symm ((ap _):(ints u.flat).length=2))))
theorem VoteT.at_vowed(m:VoteT){o:Nat}(ho:o=14):(VoteT.cells m)[o]?=some (Value.int .i64 m.vowed):=by subst ho;rw[fw];exact(jV m).at (off:=14) 4 0 rfl rfl (by simp) (by decide)
abbrev lP:= @VoteT.at_vowed
theorem VoteT.set_vowed(m:VoteT){o:Nat}(ho:o=14)(x:Int):(VoteT.cells m).set o (Value.int .i64 x)=VoteT.cells ({m with vowed:=x}:VoteT):=by subst ho;rw[fw,fw];exact(jV m).set (off:=14) 4 0 _ rfl rfl (by simp) (by decide)
theorem VoteT.at_took(m:VoteT){o:Nat}(ho:o=15):(VoteT.cells m)[o]?=some (Value.int .i64 m.took):=by subst ho;rw[fw];exact(jV m).at (off:=15) 5 0 rfl rfl (by simp) (by decide)
theorem VoteT.set_took(m:VoteT){o:Nat}(ho:o=15)(x:Int):(VoteT.cells m).set o (Value.int .i64 x)=VoteT.cells ({m with took:=x}:VoteT):=by subst ho;rw[fw,fw];exact(jV m).set (off:=15) 5 0 _ rfl rfl (by simp) (by decide)
theorem VoteT.at_putting(m:VoteT){o:Nat}(ho:o=16):(VoteT.cells m)[o]?=some (Value.bool m.putting):=by subst ho;rw[fw];exact(jV m).at (off:=16) 6 0 rfl rfl (by simp) (by decide)
abbrev l6:= @VoteT.at_putting
theorem VoteT.set_putting(m:VoteT){o:Nat}(ho:o=16)(x:Bool):(VoteT.cells m).set o (Value.bool x)=VoteT.cells ({m with putting:=x}:VoteT):=by subst ho;rw[fw,fw];exact(jV m).set (off:=16) 6 0 _ rfl rfl (by simp) (by decide)
abbrev k8:= @VoteT.set_putting
theorem RepT.sl(m:RepT):SL [[Value.int .i64 m.id],[m.log],ints m.view.flat,ints m.own.flat,MirT.cells m.mirror,ints m.acc.flat,[Value.int .i64 m.round],[m.vote],ints m.book.flat,[Value.bool m.busy],[Value.int .i64 m.kept],[Value.int .i64 m.waits],[Value.int .i64 m.ops],[m.replies],ints m.told.toList,ints (m.last.toList.flatMap RowT.flat)] [1,1,7,174,875,8,1,1,870,1,1,1,1,1,5,870]:=(.cons rfl (.cons rfl (.cons (am _) (.cons (aj _) (.cons (qy _) (.cons (a8 _) (.cons rfl (.cons rfl (.cons (x7 _) (.cons rfl (.cons rfl (.cons rfl (.cons rfl (.cons rfl (.cons (by simp[ints]) (.cons (zR _) .nil))))))))))))))))
abbrev eF:= @RepT.sl
abbrev RepT.sg(m:RepT):List (List Value):=[[Value.int .i64 m.id],[m.log],ints m.view.flat,ints m.own.flat,MirT.cells m.mirror,ints m.acc.flat,[Value.int .i64 m.round],[m.vote],ints m.book.flat,[Value.bool m.busy],[Value.int .i64 m.kept],[Value.int .i64 m.waits],[Value.int .i64 m.ops],[m.replies],ints m.told.toList,ints (m.last.toList.flatMap RowT.flat)]
theorem RepT.eq(m:RepT):RepT.cells m=[[Value.int .i64 m.id],[m.log],ints m.view.flat,ints m.own.flat,MirT.cells m.mirror,ints m.acc.flat,[Value.int .i64 m.round],[m.vote],ints m.book.flat,[Value.bool m.busy],[Value.int .i64 m.kept],[Value.int .i64 m.waits],[Value.int .i64 m.ops],[m.replies],ints m.told.toList,ints (m.last.toList.flatMap RowT.flat)].flatten:=rfl
abbrev ey:= @RepT.eq
theorem RepT.len(m:RepT):(RepT.cells m).length=2818:=by rw[ey,(eF m).len];rfl
abbrev cN:= @RepT.len
theorem RepT.at_id(m:RepT){o:Nat}(ho:o=0):(RepT.cells m)[o]?=some (Value.int .i64 m.id):=by subst ho;rw[ey];exact(eF m).at (off:=0) 0 0 rfl rfl (by simp) (by decide)
abbrev cD:= @RepT.at_id
theorem RepT.at_log(m:RepT){o:Nat}(ho:o=1):(RepT.cells m)[o]?=some (m.log):=by subst ho;rw[ey];exact(eF m).at (off:=1) 1 0 rfl rfl (by simp) (by decide)
theorem RepT.pt_view(m:RepT){o:Nat}(j:Nat)(ho:o=2+j)(h:j<7){r:Option Value}(hr:(ints m.view.flat)[j]?=r):(RepT.cells m)[o]?=r:=by subst ho;rw[←hr,ey];exact(eF m).at (off:=2) 2 j rfl rfl (by simp) h
abbrev cg:= @RepT.pt_view
theorem RepT.sub_view(m:RepT){o k:Nat}(j:Nat)(ho:o=2+j)(h:j+k≤7){r:List Value}(hr:((ints m.view.flat).drop j).take k=r):((RepT.cells m).drop o).take k=r:=by subst ho;rw[←hr,ey];exact(eF m).sub (off:=2) 2 j k rfl rfl (by simp) h
abbrev fS:= @RepT.sub_view
theorem RepT.wr_view_(m:RepT){o:Nat}(j:Nat){vs:List Value}{u':ViewT}(ho:o=2+j)(h:j+vs.length≤7)(hw:wr (ints m.view.flat) j vs=ints u'.flat):wr (RepT.cells m) o vs=RepT.cells ({m with view:=u'}:RepT):=by subst ho;rw[ey];refine((eF m).putIn (off:=2) 2 j vs rfl rfl (by simp) h hw).trans ?_;simp only[RepT.cells,bT,cb]
abbrev PR:= @RepT.wr_view_
theorem RepT.sp_view(m:RepT):((RepT.cells m).drop 2).take 7=ints m.view.flat:=fS m 0 rfl (by decide) (whole ((am _):(ints m.view.flat).length=7))
abbrev cM:= @RepT.sp_view
theorem RepT.wp_view(m:RepT)(u:ViewT):wr (RepT.cells m) 2 (ints u.flat)=RepT.cells ({m with view:=u}:RepT):=PR m 0 rfl (by rw[bg];exact cQ ((am _):(ints u.flat).length=7)) (cr (Eq.trans ((am _):(ints m.view.flat).length=7) (Eq.symm ((am _):(ints u.flat).length=7))))
theorem RepT.pt_own(m:RepT){o:Nat}(j:Nat)(ho:o=9+j)(h:j<174){r:Option Value}(hr:(ints m.own.flat)[j]?=r):(RepT.cells m)[o]?=r:=by subst ho;rw[←hr,ey];exact(eF m).at (off:=9) 3 j rfl rfl (by simp) h
theorem RepT.sub_own(m:RepT){o k:Nat}(j:Nat)(ho:o=9+j)(h:j+k≤174){r:List Value}(hr:((ints m.own.flat).drop j).take k=r):((RepT.cells m).drop o).take k=r:=by subst ho;rw[←hr,ey];exact(eF m).sub (off:=9) 3 j k rfl rfl (by simp) h
abbrev yF:= @RepT.sub_own
theorem RepT.wr_own_(m:RepT){o:Nat}(j:Nat){vs:List Value}{u':RowT}(ho:o=9+j)(h:j+vs.length≤174)(hw:wr (ints m.own.flat) j vs=ints u'.flat):wr (RepT.cells m) o vs=RepT.cells ({m with own:=u'}:RepT):=by subst ho;rw[ey];refine((eF m).putIn (off:=9) 3 j vs rfl rfl (by simp) h hw).trans ?_;simp only[RepT.cells,bT,cb]
abbrev Qi:= @RepT.wr_own_
theorem RepT.sp_own(m:RepT):((RepT.cells m).drop 9).take 174=ints m.own.flat:=yF m 0 rfl (by decide) (whole ((aj _):(ints m.own.flat).length=174))
abbrev Du:= @RepT.sp_own
theorem RepT.wp_own(m:RepT)(u:RowT):wr (RepT.cells m) 9 (ints u.flat)=RepT.cells ({m with own:=u}:RepT):=Qi m 0 rfl (by rw[bg];exact cQ ((aj _):(ints u.flat).length=174)) (cr (Eq.trans ((aj _):(ints m.own.flat).length=174) (Eq.symm ((aj _):(ints u.flat).length=174))))
theorem RepT.around_mirror(m:RepT): ∃A B,RepT.cells m=A++(MirT.cells m.mirror++B)∧A.length=183∧∀u':MirT,RepT.cells ({m with mirror:=u'}:RepT)=A++(MirT.cells u'++B):=by
 obtain⟨A,B,h1,h2,h3⟩:=(eF m).around (off:=183) 4 rfl rfl (by simp);exact⟨A,B,by rw[ey];exact h1,h2,λu'=>by rw[←h3];simp only[RepT.cells,bT,cb]⟩
theorem RepT.arnd_mirror(m:RepT):Arnd (λu:MirT=>RepT.cells ({m with mirror:=u}:RepT)) (λu=>MirT.cells u) 183:=by
 obtain⟨A,B,_,h2,h3⟩:=RepT.around_mirror m;exact⟨A,B,h2,h3⟩
abbrev dW:= @RepT.arnd_mirror
theorem RepT.sub_acc(m:RepT){o k:Nat}(j:Nat)(ho:o=1058+j)(h:j+k≤8){r:List Value}(hr:((ints m.acc.flat).drop j).take k=r):((RepT.cells m).drop o).take k=r:=by subst ho;rw[←hr,ey];exact(eF m).sub (off:=1058) 5 j k rfl rfl (by simp) h
abbrev yG:= @RepT.sub_acc
theorem RepT.wr_acc_(m:RepT){o:Nat}(j:Nat){vs:List Value}{u':AccT}(ho:o=1058+j)(h:j+vs.length≤8)(hw:wr (ints m.acc.flat) j vs=ints u'.flat):wr (RepT.cells m) o vs=RepT.cells ({m with acc:=u'}:RepT):=by subst ho;rw[ey];refine((eF m).putIn (off:=1058) 5 j vs rfl rfl (by simp) h hw).trans ?_;simp only[RepT.cells,bT,cb]
abbrev kA:= @RepT.wr_acc_
theorem RepT.at_round(m:RepT){o:Nat}(ho:o=1066):(RepT.cells m)[o]?=some (Value.int .i64 m.round):=by subst ho;rw[ey];exact(eF m).at (off:=1066) 6 0 rfl rfl (by simp) (by decide)
abbrev vA:= @RepT.at_round
theorem RepT.set_round(m:RepT){o:Nat}(ho:o=1066)(x:Int):(RepT.cells m).set o (Value.int .i64 x)=RepT.cells ({m with round:=x}:RepT):=by subst ho;rw[ey];refine((eF m).set (off:=1066) 6 0 _ rfl rfl (by simp) (by decide)).trans ?_;simp only[RepT.cells,bT,cb]
abbrev lS:= @RepT.set_round
theorem RepT.at_vote(m:RepT){o:Nat}(ho:o=1067):(RepT.cells m)[o]?=some (m.vote):=by subst ho;rw[ey];exact(eF m).at (off:=1067) 7 0 rfl rfl (by simp) (by decide)
abbrev bX:= @RepT.at_vote
theorem RepT.set_vote(m:RepT){o:Nat}(ho:o=1067)(x:Value):(RepT.cells m).set o (x)=RepT.cells ({m with vote:=x}:RepT):=by subst ho;rw[ey];refine((eF m).set (off:=1067) 7 0 _ rfl rfl (by simp) (by decide)).trans ?_;simp only[RepT.cells,bT,cb]
abbrev PT:= @RepT.set_vote
theorem RepT.around_book(m:RepT): ∃A B,RepT.cells m=A++(ints m.book.flat++B)∧A.length=1068∧∀u':BookT,RepT.cells ({m with book:=u'}:RepT)=A++(ints u'.flat++B):=by
 obtain⟨A,B,h1,h2,h3⟩:=(eF m).around (off:=1068) 8 rfl rfl (by simp);exact⟨A,B,by rw[ey];exact h1,h2,λu'=>by rw[←h3];simp only[RepT.cells,bT,cb]⟩
theorem RepT.arnd_book(m:RepT):Arnd (λu:BookT=>RepT.cells ({m with book:=u}:RepT)) (λu=>ints u.flat) 1068:=by
 obtain⟨A,B,_,h2,h3⟩:=RepT.around_book m;exact⟨A,B,h2,h3⟩
abbrev gH:= @RepT.arnd_book
theorem RepT.at_busy(m:RepT){o:Nat}(ho:o=1938):(RepT.cells m)[o]?=some (Value.bool m.busy):=by subst ho;rw[ey];exact(eF m).at (off:=1938) 9 0 rfl rfl (by simp) (by decide)
abbrev yH:= @RepT.at_busy
theorem RepT.set_busy(m:RepT){o:Nat}(ho:o=1938)(x:Bool):(RepT.cells m).set o (Value.bool x)=RepT.cells ({m with busy:=x}:RepT):=by subst ho;rw[ey];refine((eF m).set (off:=1938) 9 0 _ rfl rfl (by simp) (by decide)).trans ?_;simp only[RepT.cells,bT,cb]
abbrev PX:= @RepT.set_busy
theorem RepT.at_kept(m:RepT){o:Nat}(ho:o=1939):(RepT.cells m)[o]?=some (Value.int .i64 m.kept):=by subst ho;rw[ey];exact(eF m).at (off:=1939) 10 0 rfl rfl (by simp) (by decide)
abbrev rZ:= @RepT.at_kept
theorem RepT.set_kept(m:RepT){o:Nat}(ho:o=1939)(x:Int):(RepT.cells m).set o (Value.int .i64 x)=RepT.cells ({m with kept:=x}:RepT):=by subst ho;rw[ey];refine((eF m).set (off:=1939) 10 0 _ rfl rfl (by simp) (by decide)).trans ?_;simp only[RepT.cells,bT,cb]
abbrev PW:= @RepT.set_kept
theorem RepT.at_waits(m:RepT){o:Nat}(ho:o=1940):(RepT.cells m)[o]?=some (Value.int .i64 m.waits):=by subst ho;rw[ey];exact(eF m).at (off:=1940) 11 0 rfl rfl (by simp) (by decide)
theorem RepT.set_waits(m:RepT){o:Nat}(ho:o=1940)(x:Int):(RepT.cells m).set o (Value.int .i64 x)=RepT.cells ({m with waits:=x}:RepT):=by subst ho;rw[ey];refine((eF m).set (off:=1940) 11 0 _ rfl rfl (by simp) (by decide)).trans ?_;simp only[RepT.cells,bT,cb]
theorem RepT.at_ops(m:RepT){o:Nat}(ho:o=1941):(RepT.cells m)[o]?=some (Value.int .i64 m.ops):=by subst ho;rw[ey];exact(eF m).at (off:=1941) 12 0 rfl rfl (by simp) (by decide)
theorem RepT.set_ops(m:RepT){o:Nat}(ho:o=1941)(x:Int):(RepT.cells m).set o (Value.int .i64 x)=RepT.cells ({m with ops:=x}:RepT):=by subst ho;rw[ey];refine((eF m).set (off:=1941) 12 0 _ rfl rfl (by simp) (by decide)).trans ?_;simp only[RepT.cells,bT,cb]
theorem RepT.at_replies(m:RepT){o:Nat}(ho:o=1942):(RepT.cells m)[o]?=some (m.replies):=by subst ho;rw[ey];exact(eF m).at (off:=1942) 13 0 rfl rfl (by simp) (by decide)
theorem RepT.set_replies(m:RepT){o:Nat}(ho:o=1942)(x:Value):(RepT.cells m).set o (x)=RepT.cells ({m with replies:=x}:RepT):=by subst ho;rw[ey];refine((eF m).set (off:=1942) 13 0 _ rfl rfl (by simp) (by decide)).trans ?_;simp only[RepT.cells,bT,cb]
theorem RepT.pt_told(m:RepT){o:Nat}(j:Nat)(ho:o=1943+j)(h:j<5){r:Option Value}(hr:(ints m.told.toList)[j]?=r):(RepT.cells m)[o]?=r:=by subst ho;rw[←hr,ey];exact(eF m).at (off:=1943) 14 j rfl rfl (by simp) h
abbrev Qj:= @RepT.pt_told
theorem RepT.st_told(m:RepT){o:Nat}(j:Nat){v:Value}{u':Vector Int 5}(ho:o=1943+j)(h:j<5)(hw:(ints m.told.toList).set j v=ints u'.toList):(RepT.cells m).set o v=RepT.cells ({m with told:=u'}:RepT):=by subst ho;rw[ey];refine((eF m).set (off:=1943) 14 j v rfl rfl (by simp) h).trans ?_;rw[hw];simp only[RepT.cells,bT,cb]
theorem RepT.pt_last(m:RepT){o:Nat}(j:Nat)(ho:o=1948+j)(h:j<870){r:Option Value}(hr:(ints (m.last.toList.flatMap RowT.flat))[j]?=r):(RepT.cells m)[o]?=r:=by subst ho;rw[←hr,ey];exact(eF m).at (off:=1948) 15 j rfl rfl (by simp) h
theorem RepT.sub_last(m:RepT){o k:Nat}(j:Nat)(ho:o=1948+j)(h:j+k≤870){r:List Value}(hr:((ints (m.last.toList.flatMap RowT.flat)).drop j).take k=r):((RepT.cells m).drop o).take k=r:=by subst ho;rw[←hr,ey];exact(eF m).sub (off:=1948) 15 j k rfl rfl (by simp) h
theorem RepT.wr_last_(m:RepT){o:Nat}(j:Nat){vs:List Value}{u':Vector RowT 5}(ho:o=1948+j)(h:j+vs.length≤870)(hw:wr (ints (m.last.toList.flatMap RowT.flat)) j vs=ints (u'.toList.flatMap RowT.flat)):wr (RepT.cells m) o vs=RepT.cells ({m with last:=u'}:RepT):=by subst ho;rw[ey];refine((eF m).putIn (off:=1948) 15 j vs rfl rfl (by simp) h hw).trans ?_;simp only[RepT.cells,bT,cb]
def fO(n:Int):Int:=IntKind.i64.wrap n
def m5(key:Int):Bool:=decide (0≤key∧key<4)
theorem fl{w:Int}(h:cH w=true):w.toNat<5:=by have:0≤w∧w<5:=of_decide_eq_true h;omega
theorem AK{k:Int}(h:m5 k=true):k.toNat<4:=by have:0≤k∧k<4:=of_decide_eq_true h;omega
def xS(key n:Int):Bool:=m5 key&&decide (1≤n)&&H3 n
def dM(x:RowT)(key:Int):CellT:=if h:m5 key=true then x.cells[key.toNat]'(AK h)else .zero
def lq(x:RowT)(key:Int)(c:CellT):RowT:=if h:m5 key=true then {x with cells:=x.cells.set key.toNat c (AK h)}else x
def kS(x:RowT)(key n counts:Int)(c:CellT):RowT×Int:=
 if counts>1099511627776-n then(.zero,6)else({lq x key c with version:=fO (x.version+1)},0)
def oM(x:RowT)(key n:Int):RowT×Int:=
 if xS key n then kS x key n (dM x key).inn {dM x key with inn:=fO ((dM x key).inn+n)}else(.zero,5)
def oN(x:RowT)(key n:Int):RowT×Int:=
 if xS key n then kS x key n (dM x key).out {dM x key with out:=fO ((dM x key).out+n)}else(.zero,5)
def lr(c:CellT)(to:Int):Int:=if h:cH to=true then c.given[to.toNat]'(fl h)else 0
def xt(c:CellT)(to v:Int):CellT:=if h:cH to=true then {c with given:=c.given.set to.toNat v (fl h)}else c
def Ir(c:CellT):Int:=c.given.toList.foldl (λs g=>fO (s+g)) 0
def lp(x:RowT)(key n to:Int):RowT×Int:=
 if cH to&&xS key n then kS x key n (Ir (dM x key)) (xt (dM x key) to (fO (lr (dM x key) to+n)))else(.zero,5)
def ownAt(x:RowT)(who:Int)(i:Nat):Bool:=decide ((i:Int)=who)||decide (0<x.heir.toList.getD i 0)
def iv(x:RowT)(who:Int)(k:Nat):List Int:=((List.range k).filter (ownAt x who)).map λi=>((i:Nat):Int)
def gi(x:RowT)(who:Int):List Int:=iv x who 5
theorem rI(x:RowT)(who:Int)(k:Nat):iv x who (k+1)=iv x who k++(if ownAt x who k then [((k:Nat):Int)]else []):=by
 unfold iv;rw[cV,List.filter_append,dB]
 by_cases h:ownAt x who k=true<;>simp[h]
theorem wZ(x:RowT)(who:Int){i:Nat}(h:i<5):ownAt x who i=(decide ((i:Int)=who)||decide (0<x.heir[i])):=by simp[ownAt,h]
theorem G3(x:RowT)(who:Int)(k:Nat):(iv x who k).length≤k:=by
 unfold iv;rw[bM];exact ou (po _ _) (by simp)
def fR(x:RowT)(of':Int):Int:=if h:cH of'=true then x.heir[of'.toNat]'(fl h)else 0
def EE(x:RowT)(of' key:Int):CellT:=if h:cH of'=true∧m5 key=true then(x.left[of'.toNat]'(fl h.1))[key.toNat]'(AK h.2)else .zero
def j7(x:RowT)(who of' key:Int):CellT×Int:=
 if cH who&&cH of'&&m5 key then(if of'=who then(dM x key,x.version)else if fR x of'>0 then(EE x of' key,fO (fR x of'-1))else(.zero, -1))else(.zero, -1)
def gR(who:Int):List Int:=if cH who then [(who+1)%5,(who+2)%5]else []
def cz(b:BookT)(who:Int):RowT:=if h:cH who=true then b.rows[who.toNat]'(fl h)else .zero
theorem xQ(b:BookT){k:Nat}(h:k<5):cz b ((k:Nat):Int)=b.rows[k]:=by rw[cz,dif_pos (show cH ((k:Nat):Int)=true from decide_eq_true ⟨by omega,by omega⟩)];rfl
def Au(b:BookT)(who:Int)(x:RowT):BookT:=if h:cH who=true then {b with rows:=b.rows.set who.toNat x (fl h)}else b
def fz(b:BookT)(who:Int)(x:RowT):BookT×Bool:=
 if cH who&&gY x&&decide (x.version>(cz b who).version)then(Au b who x,true)else(b,false)
def tj(b:BookT)(of' key:Int)(s:CellT×Int)(i:Nat):CellT×Int:=
 let c:=j7 (cz b i) i of' key
 if c.2>s.2 then c else s
def xP(b:BookT)(of' key:Int)(k:Nat):CellT×Int:=(List.range k).foldl (tj b of' key) (.zero, -1)
def cZ(b:BookT)(of' key:Int):CellT:=(xP b of' key 5).1
theorem u6(b:BookT)(of' key:Int)(k:Nat):xP b of' key (k+1)=tj b of' key (xP b of' key k) k:=by
 unfold xP;rw[cV,eT];rfl
def qE(b:BookT)(key:Int)(k:Nat):Int:=(List.range k).foldl (λv (i:Nat)=>fO (v+fO ((cZ b i key).inn- (cZ b i key).out))) 0
def gA(b:BookT)(key:Int):Int:=qE b key 5
theorem oF(b:BookT)(key:Int)(k:Nat):qE b key (k+1)=fO (qE b key k+fO ((cZ b k key).inn- (cZ b k key).out)):=by
 unfold qE;rw[cV,eT];rfl
def p4(b:BookT)(key of':Int)(r:Int)(k:Nat):Int:=(List.range k).foldl (λr (i:Nat)=>fO (r+fO (lr (cZ b i key) of'-lr (cZ b of' key) i))) r
theorem yh(b:BookT)(key of' r:Int)(k:Nat):p4 b key of' r (k+1)=fO (p4 b key of' r k+fO (lr (cZ b k key) of'-lr (cZ b of' key) k)):=by
 unfold p4;rw[cV,eT];rfl
def oO(b:BookT)(key r of':Int):Int:=p4 b key of' (fO (r+fO ((cZ b of' key).inn- (cZ b of' key).out))) 5
def o7(b:BookT)(who key:Int):Int:=if cH who then(gi (cz b who) who).foldl (oO b key) 0 else 0
theorem Ec(x:RowT)(who:Int): ∀n∈gi x who,0≤n∧n<5:=by
 intro n hn;simp only[gi,iv,eS,Nc,dX]at hn;obtain⟨i,⟨hi,_⟩,rfl⟩:=hn;omega
theorem xr(c:CellT){k:Nat}(h:k<5):lr c ((k:Nat):Int)=c.given[k]:=by rw[lr,dif_pos (show cH ((k:Nat):Int)=true from decide_eq_true ⟨by omega,by omega⟩)];rfl
def dp(m:MirT)(who:Int):RowT:=if h:cH who=true then m.rows[who.toNat]'(fl h)else .zero
def fc(m:MirT)(who:Int):Bool:=if h:cH who=true then m.sealed[who.toNat]'(fl h)else false
def lJ(m:MirT)(who:Int)(x:RowT):Bool:=cH who&& !fc m who&&gY x&&decide (x.version>(dp m who).version)
def AI(m:MirT)(who:Int)(x:RowT):MirT:=if h:cH who=true then {m with rows:=m.rows.set who.toNat x (fl h)}else m
def mw(m:MirT)(who:Int)(x:RowT):MirT×Bool:=if lJ m who x then(AI m who x,true)else(m,false)
def od(m:MirT)(who:Int):MirT:=if h:cH who=true then {m with sealed:=m.sealed.set who.toNat true (fl h)}else m
end Api
end
