/-
  Joined texts:what a statement's proof reaches.
-/
import Derived.Test.YtfocodjhmkokpaaGreatDoorPTC2
set_option maxHeartbeats 8000000
set_option maxRecDepth 100000
set_option linter.unusedSimpArgs false
set_option linter.unusedVariables false
section
namespace Api
open Go Leg
theorem whole{cs:List Value}{n:Nat}(h:cs.length=n):(cs.drop 0).take n=cs:=by rw[ba,az (by omega)]
theorem cC{cs vs:List Value}(h:cs.length=vs.length):wr cs 0 vs=vs:=gE h
theorem kN{n:Nat}(v:Vector Int n){i:Nat}(h:i<n):(ints v.toList)[i]?=some (.int .i64 v[i]):=by simp[ints,h]
theorem Ac{n:Nat}(v:Vector Int n){i:Nat}(h:i<n)(x:Int):(ints v.toList).set i (.int .i64 x)=ints (v.set i x h).toList:=by rw[sD];simp[ints,zV]
theorem xf{α:Type}(f:α→List Int)(l:List α):ints (l.flatMap f)=(l.map λx=>ints (f x)).flatten:=by
 induction l with
 |nil=>rfl
 |cons x l ih=>rw[cQ,eC,ih];rfl
theorem Ab{α:Type}{m:Nat}{f:α→List Int}(hf: ∀x,(f x).length=m): ∀l:List α,SL (l.map λx=>ints (f x)) (List.replicate l.length m)
 | []=> .nil
 |x::l=> .cons (by rw[ints_length,hf]) (Ab hf l)
theorem tI(m:Nat): ∀(n i:Nat),i≤n→((List.replicate n m).take i).sum=i*m:=λn i h=>by
 rw[GU,Nat.min_eq_left h,List.sum_replicate_nat]
theorem k9{α:Type}{n m:Nat}{f:α→List Int}(hf: ∀x,(f x).length=m)(v:Vector α n){i k o:Nat}(j:Nat)(hi:i<n)(ho:o=i*m+j)(h:j+k≤m){r:List Value}(hr:((ints (f v[i])).drop j).take k=r):
 ((ints (v.toList.flatMap f)).drop o).take k=r:=by
 subst ho;rw[←hr,xf];have hl:=(Ab hf v.toList);exact hl.sub i j k (by simp[hi]) (by simp[hi]) (by simp only[aB];exact tI m n i (by omega)) h
theorem oO{α:Type}{n m:Nat}{f:α→List Int}(hf: ∀x,(f x).length=m)(v:Vector α n){i o:Nat}(j:Nat)(hi:i<n)(ho:o=i*m+j)(h:j<m){r:Option Value}(hr:(ints (f v[i]))[j]?=r):
 (ints (v.toList.flatMap f))[o]?=r:=by
 subst ho;rw[←hr,xf];have hl:=(Ab hf v.toList);exact hl.at i j (by simp[hi]) (by simp[hi]) (by simp only[aB];exact tI m n i (by omega)) h
theorem vX{α:Type}{n:Nat}(v:Vector α n){i:Nat}(hi:i<n)(g:α→List Value)(y:α):(v.toList.map g).set i (g y)=(v.set i y hi).toList.map g:=by rw[sD,zV]
theorem vF{α:Type}{n m:Nat}{f:α→List Int}(hf: ∀x,(f x).length=m)(v:Vector α n){i o:Nat}(j:Nat){vs:List Value}{u':α}(hi:i<n)(ho:o=i*m+j)(h:j+vs.length≤m)(hw:wr (ints (f v[i])) j vs=ints (f u')):
 wr (ints (v.toList.flatMap f)) o vs=ints ((v.set i u' hi).toList.flatMap f):=by
 subst ho;rw[xf,xf,←vX v hi (λx=>ints (f x)) u'];have hl:=(Ab hf v.toList);exact hl.putIn i j vs (by simp[hi]) (by simp[hi]) (by simp only[aB];exact tI m n i (by omega)) h hw
theorem JS{α:Type}{n m:Nat}{f:α→List Int}(hf: ∀x,(f x).length=m)(v:Vector α n){i o:Nat}(j:Nat){x:Value}{u':α}(hi:i<n)(ho:o=i*m+j)(h:j<m)(hw:(ints (f v[i])).set j x=ints (f u')):
 (ints (v.toList.flatMap f)).set o x=ints ((v.set i u' hi).toList.flatMap f):=by
 subst ho;rw[xf,xf,←vX v hi (λx=>ints (f x)) u',←hw];have hl:=(Ab hf v.toList);exact hl.set i j x (by simp[hi]) (by simp[hi]) (by simp only[aB];exact tI m n i (by omega)) h
theorem dC(v:Vector Int 5):(ints v.toList).length=5:=by simp[ints]
theorem eu(v:Vector CellT 4):(ints (bS v.toList)).length=28:=by simp[ints_length,cA]
theorem mi{segs:List (List Value)}:lq segs []=some segs:=rfl
theorem fw{segs:List (List Value)}{i:Nat}{v s:List Value}{ps:List (Nat×List Value)}{res:List (List Value)}(hs:segs[i]?=some s)(hl:v.length=s.length)(h:lq (segs.set i v) ps=some res):lq segs ((i,v)::ps)=some res:=by
 simp only[lq,hs,if_pos hl,h]
theorem uQ(v:Vector CellT 4):(bS v.toList).length=28:=by simp[cA]
theorem CellT.sl(m:CellT):SL [[Value.int .i64 m.inn],[Value.int .i64 m.out],ints m.given.toList] [1,1,5]:=(.cons rfl (.cons rfl (.cons (by simp[ints]) .nil)))
abbrev Fo:= @CellT.sl
abbrev CellT.sg(m:CellT):List (List Value):=[[Value.int .i64 m.inn],[Value.int .i64 m.out],ints m.given.toList]
theorem CellT.eq(m:CellT):ints m.flat=[[Value.int .i64 m.inn],[Value.int .i64 m.out],ints m.given.toList].flatten:=by simp[CellT.flat,ints]
abbrev rA:= @CellT.eq
theorem CellT.at_inn(m:CellT){o:Nat}(ho:o=0):(ints m.flat)[o]?=some (Value.int .i64 m.inn):=by subst ho;rw[rA];exact(Fo m).at 0 0 rfl rfl rfl (by decide)
abbrev ti:= @CellT.at_inn
theorem CellT.set_inn(m:CellT){o:Nat}(ho:o=0)(x:Int):(ints m.flat).set o (Value.int .i64 x)=ints ({m with inn:=x}:CellT).flat:=by subst ho;rw[rA,rA];exact(Fo m).set 0 0 _ rfl rfl rfl (by decide)
theorem CellT.at_out(m:CellT){o:Nat}(ho:o=1):(ints m.flat)[o]?=some (Value.int .i64 m.out):=by subst ho;rw[rA];exact(Fo m).at 1 0 rfl rfl rfl (by decide)
abbrev th:= @CellT.at_out
theorem CellT.set_out(m:CellT){o:Nat}(ho:o=1)(x:Int):(ints m.flat).set o (Value.int .i64 x)=ints ({m with out:=x}:CellT).flat:=by subst ho;rw[rA,rA];exact(Fo m).set 1 0 _ rfl rfl rfl (by decide)
theorem CellT.pt_given(m:CellT){o:Nat}(j:Nat)(ho:o=2+j)(h:j<5){r:Option Value}(hr:(ints m.given.toList)[j]?=r):(ints m.flat)[o]?=r:=by subst ho;rw[←hr,rA];exact(Fo m).at 2 j rfl rfl rfl h
abbrev QX:= @CellT.pt_given
theorem CellT.sub_given(m:CellT){o k:Nat}(j:Nat)(ho:o=2+j)(h:j+k≤5){r:List Value}(hr:((ints m.given.toList).drop j).take k=r):((ints m.flat).drop o).take k=r:=by subst ho;rw[←hr,rA];exact(Fo m).sub 2 j k rfl rfl rfl h
theorem CellT.st_given(m:CellT){o:Nat}(j:Nat){v:Value}{u':Vector Int 5}(ho:o=2+j)(h:j<5)(hw:(ints m.given.toList).set j v=ints u'.toList):(ints m.flat).set o v=ints ({m with given:=u'}:CellT).flat:=by subst ho;rw[rA,rA];exact((Fo m).set 2 j v rfl rfl rfl h).trans (by rw[hw];rfl)
theorem RowT.sl(m:RowT):SL [[Value.int .i64 m.version],ints (bS m.cells.toList),ints m.heir.toList,ints (m.left.toList.flatMap λv=>bS v.toList)] [1,28,5,140]:=(.cons rfl (.cons (by simp[ints_length,cA]) (.cons (by simp[ints]) (.cons (by rw[ints_length,ut];simp) .nil))))
abbrev wt:= @RowT.sl
abbrev RowT.sg(m:RowT):List (List Value):=[[Value.int .i64 m.version],ints (bS m.cells.toList),ints m.heir.toList,ints (m.left.toList.flatMap λv=>bS v.toList)]
theorem RowT.eq(m:RowT):ints m.flat=[[Value.int .i64 m.version],ints (bS m.cells.toList),ints m.heir.toList,ints (m.left.toList.flatMap λv=>bS v.toList)].flatten:=by simp[RowT.flat,ints]
abbrev n7:= @RowT.eq
theorem RowT.at_version(m:RowT){o:Nat}(ho:o=0):(ints m.flat)[o]?=some (Value.int .i64 m.version):=by subst ho;rw[n7];exact(wt m).at 0 0 rfl rfl rfl (by decide)
abbrev cB:= @RowT.at_version
theorem RowT.set_version(m:RowT){o:Nat}(ho:o=0)(x:Int):(ints m.flat).set o (Value.int .i64 x)=ints ({m with version:=x}:RowT).flat:=by subst ho;rw[n7,n7];exact(wt m).set 0 0 _ rfl rfl rfl (by decide)
abbrev y3:= @RowT.set_version
theorem RowT.pt_cells(m:RowT){o:Nat}(j:Nat)(ho:o=1+j)(h:j<28){r:Option Value}(hr:(ints (bS m.cells.toList))[j]?=r):(ints m.flat)[o]?=r:=by subst ho;rw[←hr,n7];exact(wt m).at 1 j rfl rfl rfl h
abbrev wH:= @RowT.pt_cells
theorem RowT.sub_cells(m:RowT){o k:Nat}(j:Nat)(ho:o=1+j)(h:j+k≤28){r:List Value}(hr:((ints (bS m.cells.toList)).drop j).take k=r):((ints m.flat).drop o).take k=r:=by subst ho;rw[←hr,n7];exact(wt m).sub 1 j k rfl rfl rfl h
abbrev Fh:= @RowT.sub_cells
theorem RowT.st_cells(m:RowT){o:Nat}(j:Nat){v:Value}{u':Vector CellT 4}(ho:o=1+j)(h:j<28)(hw:(ints (bS m.cells.toList)).set j v=ints (bS u'.toList)):(ints m.flat).set o v=ints ({m with cells:=u'}:RowT).flat:=by subst ho;rw[n7,n7];exact((wt m).set 1 j v rfl rfl rfl h).trans (by rw[hw];rfl)
abbrev R1:= @RowT.st_cells
theorem RowT.pt_heir(m:RowT){o:Nat}(j:Nat)(ho:o=29+j)(h:j<5){r:Option Value}(hr:(ints m.heir.toList)[j]?=r):(ints m.flat)[o]?=r:=by subst ho;rw[←hr,n7];exact(wt m).at 2 j rfl rfl rfl h
abbrev s9:= @RowT.pt_heir
theorem RowT.sub_heir(m:RowT){o k:Nat}(j:Nat)(ho:o=29+j)(h:j+k≤5){r:List Value}(hr:((ints m.heir.toList).drop j).take k=r):((ints m.flat).drop o).take k=r:=by subst ho;rw[←hr,n7];exact(wt m).sub 2 j k rfl rfl rfl h
abbrev R0:= @RowT.sub_heir
theorem RowT.st_heir(m:RowT){o:Nat}(j:Nat){v:Value}{u':Vector Int 5}(ho:o=29+j)(h:j<5)(hw:(ints m.heir.toList).set j v=ints u'.toList):(ints m.flat).set o v=ints ({m with heir:=u'}:RowT).flat:=by subst ho;rw[n7,n7];exact((wt m).set 2 j v rfl rfl rfl h).trans (by rw[hw];rfl)
theorem RowT.sub_left(m:RowT){o k:Nat}(j:Nat)(ho:o=34+j)(h:j+k≤140){r:List Value}(hr:((ints (m.left.toList.flatMap λv=>bS v.toList)).drop j).take k=r):((ints m.flat).drop o).take k=r:=by subst ho;rw[←hr,n7];exact(wt m).sub 3 j k rfl rfl rfl h
abbrev HK:= @RowT.sub_left
theorem RowT.wr_left_(m:RowT){o:Nat}(j:Nat){vs:List Value}{u':Vector (Vector CellT 4) 5}(ho:o=34+j)(h:j+vs.length≤140)(hw:wr (ints (m.left.toList.flatMap λv=>bS v.toList)) j vs=ints (u'.toList.flatMap λv=>bS v.toList)):wr (ints m.flat) o vs=ints ({m with left:=u'}:RowT).flat:=by subst ho;rw[n7,n7];exact(wt m).putIn 3 j vs rfl rfl rfl h hw
theorem ViewT.sl(m:ViewT):SL [[Value.int .i64 m.epoch],[Value.int .i64 m.members],ints m.heirs.toList] [1,1,5]:=(.cons rfl (.cons rfl (.cons (by simp[ints]) .nil)))
abbrev y2:= @ViewT.sl
abbrev ViewT.sg(m:ViewT):List (List Value):=[[Value.int .i64 m.epoch],[Value.int .i64 m.members],ints m.heirs.toList]
theorem ViewT.eq(m:ViewT):ints m.flat=[[Value.int .i64 m.epoch],[Value.int .i64 m.members],ints m.heirs.toList].flatten:=by simp[ViewT.flat,ints]
abbrev n0:= @ViewT.eq
theorem ViewT.len(m:ViewT):(ints m.flat).length=7:=by rw[n0,(y2 m).len];rfl
abbrev ap:= @ViewT.len
theorem ViewT.at_epoch(m:ViewT){o:Nat}(ho:o=0):(ints m.flat)[o]?=some (Value.int .i64 m.epoch):=by subst ho;rw[n0];exact(y2 m).at 0 0 rfl rfl rfl (by decide)
abbrev be:= @ViewT.at_epoch
theorem ViewT.set_epoch(m:ViewT){o:Nat}(ho:o=0)(x:Int):(ints m.flat).set o (Value.int .i64 x)=ints ({m with epoch:=x}:ViewT).flat:=by subst ho;rw[n0,n0];exact(y2 m).set 0 0 _ rfl rfl rfl (by decide)
theorem ViewT.at_members(m:ViewT){o:Nat}(ho:o=1):(ints m.flat)[o]?=some (Value.int .i64 m.members):=by subst ho;rw[n0];exact(y2 m).at 1 0 rfl rfl rfl (by decide)
abbrev iU:= @ViewT.at_members
theorem ViewT.set_members(m:ViewT){o:Nat}(ho:o=1)(x:Int):(ints m.flat).set o (Value.int .i64 x)=ints ({m with members:=x}:ViewT).flat:=by subst ho;rw[n0,n0];exact(y2 m).set 1 0 _ rfl rfl rfl (by decide)
theorem ViewT.pt_heirs(m:ViewT){o:Nat}(j:Nat)(ho:o=2+j)(h:j<5){r:Option Value}(hr:(ints m.heirs.toList)[j]?=r):(ints m.flat)[o]?=r:=by subst ho;rw[←hr,n0];exact(y2 m).at 2 j rfl rfl rfl h
theorem ViewT.sub_heirs(m:ViewT){o k:Nat}(j:Nat)(ho:o=2+j)(h:j+k≤5){r:List Value}(hr:((ints m.heirs.toList).drop j).take k=r):((ints m.flat).drop o).take k=r:=by subst ho;rw[←hr,n0];exact(y2 m).sub 2 j k rfl rfl rfl h
theorem ViewT.st_heirs(m:ViewT){o:Nat}(j:Nat){v:Value}{u':Vector Int 5}(ho:o=2+j)(h:j<5)(hw:(ints m.heirs.toList).set j v=ints u'.toList):(ints m.flat).set o v=ints ({m with heirs:=u'}:ViewT).flat:=by subst ho;rw[n0,n0];exact((y2 m).set 2 j v rfl rfl rfl h).trans (by rw[hw];rfl)
theorem ChangeT.sl(m:ChangeT):SL [[Value.int .i64 m.kind],[Value.int .i64 m.who],[Value.int .i64 m.heir]] [1,1,1]:=(.cons rfl (.cons rfl (.cons rfl .nil)))
abbrev QV:= @ChangeT.sl
abbrev ChangeT.sg(m:ChangeT):List (List Value):=[[Value.int .i64 m.kind],[Value.int .i64 m.who],[Value.int .i64 m.heir]]
theorem ChangeT.eq(m:ChangeT):ints m.flat=[[Value.int .i64 m.kind],[Value.int .i64 m.who],[Value.int .i64 m.heir]].flatten:=by simp[ChangeT.flat,ints]
abbrev QW:= @ChangeT.eq
theorem ChangeT.len(m:ChangeT):(ints m.flat).length=3:=by rw[QW,(QV m).len];rfl
abbrev aN:= @ChangeT.len
theorem ChangeT.at_kind(m:ChangeT){o:Nat}(ho:o=0):(ints m.flat)[o]?=some (Value.int .i64 m.kind):=by subst ho;rw[QW];exact(QV m).at 0 0 rfl rfl rfl (by decide)
theorem ChangeT.at_who(m:ChangeT){o:Nat}(ho:o=1):(ints m.flat)[o]?=some (Value.int .i64 m.who):=by subst ho;rw[QW];exact(QV m).at 1 0 rfl rfl rfl (by decide)
abbrev jh:= @ChangeT.at_who
theorem ChangeT.at_heir(m:ChangeT){o:Nat}(ho:o=2):(ints m.flat)[o]?=some (Value.int .i64 m.heir):=by subst ho;rw[QW];exact(QV m).at 2 0 rfl rfl rfl (by decide)
abbrev rZ:= @ChangeT.at_heir
theorem BallotT.sl(m:BallotT):SL [[Value.int .i64 m.round],[Value.int .i64 m.who]] [1,1]:=(.cons rfl (.cons rfl .nil))
abbrev BallotT.sg(m:BallotT):List (List Value):=[[Value.int .i64 m.round],[Value.int .i64 m.who]]
theorem BallotT.eq(m:BallotT):ints m.flat=[[Value.int .i64 m.round],[Value.int .i64 m.who]].flatten:=by simp[BallotT.flat,ints]
abbrev Q2:= @BallotT.eq
theorem BallotT.len(m:BallotT):(ints m.flat).length=2:=by rw[Q2,(BallotT.sl m).len];rfl
abbrev au:= @BallotT.len
theorem BallotT.at_round(m:BallotT){o:Nat}(ho:o=0):(ints m.flat)[o]?=some (Value.int .i64 m.round):=by subst ho;rw[Q2];exact(BallotT.sl m).at 0 0 rfl rfl rfl (by decide)
abbrev fo:= @BallotT.at_round
theorem BallotT.at_who(m:BallotT){o:Nat}(ho:o=1):(ints m.flat)[o]?=some (Value.int .i64 m.who):=by subst ho;rw[Q2];exact(BallotT.sl m).at 1 0 rfl rfl rfl (by decide)
theorem MsgT.sl(m:MsgT):SL [[Value.int .i64 m.kind],[Value.int .i64 m.whose],ints m.row.flat,[Value.int .i64 m.version],[Value.int .i64 m.epoch],ints m.ballot.flat,ints m.had.flat,ints m.change.flat,ints m.view.flat] [1,1,174,1,1,2,2,3,7]:=(.cons rfl (.cons rfl (.cons (am _) (.cons rfl (.cons rfl (.cons (au _) (.cons (au _) (.cons (aN _) (.cons (ap _) .nil)))))))))
abbrev iL:= @MsgT.sl
abbrev MsgT.sg(m:MsgT):List (List Value):=[[Value.int .i64 m.kind],[Value.int .i64 m.whose],ints m.row.flat,[Value.int .i64 m.version],[Value.int .i64 m.epoch],ints m.ballot.flat,ints m.had.flat,ints m.change.flat,ints m.view.flat]
theorem MsgT.eq(m:MsgT):ints m.flat=[[Value.int .i64 m.kind],[Value.int .i64 m.whose],ints m.row.flat,[Value.int .i64 m.version],[Value.int .i64 m.epoch],ints m.ballot.flat,ints m.had.flat,ints m.change.flat,ints m.view.flat].flatten:=by simp[MsgT.flat,ints]
abbrev bA:= @MsgT.eq
theorem MsgT.len(m:MsgT):(ints m.flat).length=192:=by rw[bA,(iL m).len];rfl
abbrev aJ:= @MsgT.len
theorem MsgT.at_kind(m:MsgT){o:Nat}(ho:o=0):(ints m.flat)[o]?=some (Value.int .i64 m.kind):=by subst ho;rw[bA];exact(iL m).at 0 0 rfl rfl rfl (by decide)
abbrev eZ:= @MsgT.at_kind
theorem MsgT.set_kind(m:MsgT){o:Nat}(ho:o=0)(x:Int):(ints m.flat).set o (Value.int .i64 x)=ints ({m with kind:=x}:MsgT).flat:=by subst ho;rw[bA,bA];exact(iL m).set 0 0 _ rfl rfl rfl (by decide)
theorem MsgT.at_whose(m:MsgT){o:Nat}(ho:o=1):(ints m.flat)[o]?=some (Value.int .i64 m.whose):=by subst ho;rw[bA];exact(iL m).at 1 0 rfl rfl rfl (by decide)
abbrev cv:= @MsgT.at_whose
theorem MsgT.set_whose(m:MsgT){o:Nat}(ho:o=1)(x:Int):(ints m.flat).set o (Value.int .i64 x)=ints ({m with whose:=x}:MsgT).flat:=by subst ho;rw[bA,bA];exact(iL m).set 1 0 _ rfl rfl rfl (by decide)
theorem MsgT.pt_row(m:MsgT){o:Nat}(j:Nat)(ho:o=2+j)(h:j<174){r:Option Value}(hr:(ints m.row.flat)[j]?=r):(ints m.flat)[o]?=r:=by subst ho;rw[←hr,bA];exact(iL m).at 2 j rfl rfl rfl h
theorem MsgT.sub_row(m:MsgT){o k:Nat}(j:Nat)(ho:o=2+j)(h:j+k≤174){r:List Value}(hr:((ints m.row.flat).drop j).take k=r):((ints m.flat).drop o).take k=r:=by subst ho;rw[←hr,bA];exact(iL m).sub 2 j k rfl rfl rfl h
abbrev mO:= @MsgT.sub_row
theorem MsgT.wr_row_(m:MsgT){o:Nat}(j:Nat){vs:List Value}{u':RowT}(ho:o=2+j)(h:j+vs.length≤174)(hw:wr (ints m.row.flat) j vs=ints u'.flat):wr (ints m.flat) o vs=ints ({m with row:=u'}:MsgT).flat:=by subst ho;rw[bA,bA];exact(iL m).putIn 2 j vs rfl rfl rfl h hw
theorem MsgT.sp_row(m:MsgT):((ints m.flat).drop 2).take 174=ints m.row.flat:=mO m 0 rfl (by decide) (whole ((am _):(ints m.row.flat).length=174))
theorem MsgT.wp_row(m:MsgT)(u:RowT):wr (ints m.flat) 2 (ints u.flat)=ints ({m with row:=u}:MsgT).flat:=MsgT.wr_row_ m 0 rfl (by rw[bi];exact cV ((am _):(ints u.flat).length=174)) (cC (Eq.trans ((am _):(ints m.row.flat).length=174) (Eq.symm ((am _):(ints u.flat).length=174))))
theorem MsgT.at_version(m:MsgT){o:Nat}(ho:o=176):(ints m.flat)[o]?=some (Value.int .i64 m.version):=by subst ho;rw[bA];exact(iL m).at 3 0 rfl rfl rfl (by decide)
theorem MsgT.set_version(m:MsgT){o:Nat}(ho:o=176)(x:Int):(ints m.flat).set o (Value.int .i64 x)=ints ({m with version:=x}:MsgT).flat:=by subst ho;rw[bA,bA];exact(iL m).set 3 0 _ rfl rfl rfl (by decide)
theorem MsgT.at_epoch(m:MsgT){o:Nat}(ho:o=177):(ints m.flat)[o]?=some (Value.int .i64 m.epoch):=by subst ho;rw[bA];exact(iL m).at 4 0 rfl rfl rfl (by decide)
abbrev eS:= @MsgT.at_epoch
theorem MsgT.set_epoch(m:MsgT){o:Nat}(ho:o=177)(x:Int):(ints m.flat).set o (Value.int .i64 x)=ints ({m with epoch:=x}:MsgT).flat:=by subst ho;rw[bA,bA];exact(iL m).set 4 0 _ rfl rfl rfl (by decide)
abbrev QO:= @MsgT.set_epoch
theorem MsgT.pt_ballot(m:MsgT){o:Nat}(j:Nat)(ho:o=178+j)(h:j<2){r:Option Value}(hr:(ints m.ballot.flat)[j]?=r):(ints m.flat)[o]?=r:=by subst ho;rw[←hr,bA];exact(iL m).at 5 j rfl rfl rfl h
theorem MsgT.sub_ballot(m:MsgT){o k:Nat}(j:Nat)(ho:o=178+j)(h:j+k≤2){r:List Value}(hr:((ints m.ballot.flat).drop j).take k=r):((ints m.flat).drop o).take k=r:=by subst ho;rw[←hr,bA];exact(iL m).sub 5 j k rfl rfl rfl h
abbrev jE:= @MsgT.sub_ballot
theorem MsgT.wr_ballot_(m:MsgT){o:Nat}(j:Nat){vs:List Value}{u':BallotT}(ho:o=178+j)(h:j+vs.length≤2)(hw:wr (ints m.ballot.flat) j vs=ints u'.flat):wr (ints m.flat) o vs=ints ({m with ballot:=u'}:MsgT).flat:=by subst ho;rw[bA,bA];exact(iL m).putIn 5 j vs rfl rfl rfl h hw
theorem MsgT.sp_ballot(m:MsgT):((ints m.flat).drop 178).take 2=ints m.ballot.flat:=jE m 0 rfl (by decide) (whole ((au _):(ints m.ballot.flat).length=2))
abbrev pm:= @MsgT.sp_ballot
theorem MsgT.wp_ballot(m:MsgT)(u:BallotT):wr (ints m.flat) 178 (ints u.flat)=ints ({m with ballot:=u}:MsgT).flat:=MsgT.wr_ballot_ m 0 rfl (by rw[bi];exact cV ((au _):(ints u.flat).length=2)) (cC (Eq.trans ((au _):(ints m.ballot.flat).length=2) (Eq.symm ((au _):(ints u.flat).length=2))))
abbrev QN:= @MsgT.wp_ballot
theorem MsgT.sub_had(m:MsgT){o k:Nat}(j:Nat)(ho:o=180+j)(h:j+k≤2){r:List Value}(hr:((ints m.had.flat).drop j).take k=r):((ints m.flat).drop o).take k=r:=by subst ho;rw[←hr,bA];exact(iL m).sub 6 j k rfl rfl rfl h
abbrev Su:= @MsgT.sub_had
theorem MsgT.wr_had_(m:MsgT){o:Nat}(j:Nat){vs:List Value}{u':BallotT}(ho:o=180+j)(h:j+vs.length≤2)(hw:wr (ints m.had.flat) j vs=ints u'.flat):wr (ints m.flat) o vs=ints ({m with had:=u'}:MsgT).flat:=by subst ho;rw[bA,bA];exact(iL m).putIn 6 j vs rfl rfl rfl h hw
theorem MsgT.sp_had(m:MsgT):((ints m.flat).drop 180).take 2=ints m.had.flat:=Su m 0 rfl (by decide) (whole ((au _):(ints m.had.flat).length=2))
theorem MsgT.wp_had(m:MsgT)(u:BallotT):wr (ints m.flat) 180 (ints u.flat)=ints ({m with had:=u}:MsgT).flat:=MsgT.wr_had_ m 0 rfl (by rw[bi];exact cV ((au _):(ints u.flat).length=2)) (cC (Eq.trans ((au _):(ints m.had.flat).length=2) (Eq.symm ((au _):(ints u.flat).length=2))))
theorem MsgT.sub_change(m:MsgT){o k:Nat}(j:Nat)(ho:o=182+j)(h:j+k≤3){r:List Value}(hr:((ints m.change.flat).drop j).take k=r):((ints m.flat).drop o).take k=r:=by subst ho;rw[←hr,bA];exact(iL m).sub 7 j k rfl rfl rfl h
abbrev n8:= @MsgT.sub_change
theorem MsgT.wr_change_(m:MsgT){o:Nat}(j:Nat){vs:List Value}{u':ChangeT}(ho:o=182+j)(h:j+vs.length≤3)(hw:wr (ints m.change.flat) j vs=ints u'.flat):wr (ints m.flat) o vs=ints ({m with change:=u'}:MsgT).flat:=by subst ho;rw[bA,bA];exact(iL m).putIn 7 j vs rfl rfl rfl h hw
theorem MsgT.sp_change(m:MsgT):((ints m.flat).drop 182).take 3=ints m.change.flat:=n8 m 0 rfl (by decide) (whole ((aN _):(ints m.change.flat).length=3))
theorem MsgT.wp_change(m:MsgT)(u:ChangeT):wr (ints m.flat) 182 (ints u.flat)=ints ({m with change:=u}:MsgT).flat:=MsgT.wr_change_ m 0 rfl (by rw[bi];exact cV ((aN _):(ints u.flat).length=3)) (cC (Eq.trans ((aN _):(ints m.change.flat).length=3) (Eq.symm ((aN _):(ints u.flat).length=3))))
abbrev QM:= @MsgT.wp_change
theorem MsgT.sub_view(m:MsgT){o k:Nat}(j:Nat)(ho:o=185+j)(h:j+k≤7){r:List Value}(hr:((ints m.view.flat).drop j).take k=r):((ints m.flat).drop o).take k=r:=by subst ho;rw[←hr,bA];exact(iL m).sub 8 j k rfl rfl rfl h
abbrev wM:= @MsgT.sub_view
theorem MsgT.wr_view_(m:MsgT){o:Nat}(j:Nat){vs:List Value}{u':ViewT}(ho:o=185+j)(h:j+vs.length≤7)(hw:wr (ints m.view.flat) j vs=ints u'.flat):wr (ints m.flat) o vs=ints ({m with view:=u'}:MsgT).flat:=by subst ho;rw[bA,bA];exact(iL m).putIn 8 j vs rfl rfl rfl h hw
theorem MsgT.sp_view(m:MsgT):((ints m.flat).drop 185).take 7=ints m.view.flat:=wM m 0 rfl (by decide) (whole ((ap _):(ints m.view.flat).length=7))
theorem MsgT.wp_view(m:MsgT)(u:ViewT):wr (ints m.flat) 185 (ints u.flat)=ints ({m with view:=u}:MsgT).flat:=MsgT.wr_view_ m 0 rfl (by rw[bi];exact cV ((ap _):(ints u.flat).length=7)) (cC (Eq.trans ((ap _):(ints m.view.flat).length=7) (Eq.symm ((ap _):(ints u.flat).length=7))))
theorem RecT.sl(m:RecT):SL [[Value.int .i64 m.kind],[Value.int .i64 m.whose],ints m.row.flat,[Value.int .i64 m.epoch],ints m.ballot.flat,ints m.change.flat,ints m.view.flat] [1,1,174,1,2,3,7]:=(.cons rfl (.cons rfl (.cons (am _) (.cons rfl (.cons (au _) (.cons (aN _) (.cons (ap _) .nil)))))))
abbrev mL:= @RecT.sl
abbrev RecT.sg(m:RecT):List (List Value):=[[Value.int .i64 m.kind],[Value.int .i64 m.whose],ints m.row.flat,[Value.int .i64 m.epoch],ints m.ballot.flat,ints m.change.flat,ints m.view.flat]
theorem RecT.eq(m:RecT):ints m.flat=[[Value.int .i64 m.kind],[Value.int .i64 m.whose],ints m.row.flat,[Value.int .i64 m.epoch],ints m.ballot.flat,ints m.change.flat,ints m.view.flat].flatten:=by simp[RecT.flat,ints]
abbrev fi:= @RecT.eq
theorem RecT.len(m:RecT):(ints m.flat).length=189:=by rw[fi,(mL m).len];rfl
abbrev br:= @RecT.len
theorem RecT.at_kind(m:RecT){o:Nat}(ho:o=0):(ints m.flat)[o]?=some (Value.int .i64 m.kind):=by subst ho;rw[fi];exact(mL m).at 0 0 rfl rfl rfl (by decide)
abbrev kX:= @RecT.at_kind
theorem RecT.at_whose(m:RecT){o:Nat}(ho:o=1):(ints m.flat)[o]?=some (Value.int .i64 m.whose):=by subst ho;rw[fi];exact(mL m).at 1 0 rfl rfl rfl (by decide)
abbrev HL:= @RecT.at_whose
theorem RecT.set_whose(m:RecT){o:Nat}(ho:o=1)(x:Int):(ints m.flat).set o (Value.int .i64 x)=ints ({m with whose:=x}:RecT).flat:=by subst ho;rw[fi,fi];exact(mL m).set 1 0 _ rfl rfl rfl (by decide)
theorem RecT.sub_row(m:RecT){o k:Nat}(j:Nat)(ho:o=2+j)(h:j+k≤174){r:List Value}(hr:((ints m.row.flat).drop j).take k=r):((ints m.flat).drop o).take k=r:=by subst ho;rw[←hr,fi];exact(mL m).sub 2 j k rfl rfl rfl h
abbrev tf:= @RecT.sub_row
theorem RecT.wr_row_(m:RecT){o:Nat}(j:Nat){vs:List Value}{u':RowT}(ho:o=2+j)(h:j+vs.length≤174)(hw:wr (ints m.row.flat) j vs=ints u'.flat):wr (ints m.flat) o vs=ints ({m with row:=u'}:RecT).flat:=by subst ho;rw[fi,fi];exact(mL m).putIn 2 j vs rfl rfl rfl h hw
theorem RecT.sp_row(m:RecT):((ints m.flat).drop 2).take 174=ints m.row.flat:=tf m 0 rfl (by decide) (whole ((am _):(ints m.row.flat).length=174))
theorem RecT.wp_row(m:RecT)(u:RowT):wr (ints m.flat) 2 (ints u.flat)=ints ({m with row:=u}:RecT).flat:=RecT.wr_row_ m 0 rfl (by rw[bi];exact cV ((am _):(ints u.flat).length=174)) (cC (Eq.trans ((am _):(ints m.row.flat).length=174) (Eq.symm ((am _):(ints u.flat).length=174))))
theorem RecT.at_epoch(m:RecT){o:Nat}(ho:o=176):(ints m.flat)[o]?=some (Value.int .i64 m.epoch):=by subst ho;rw[fi];exact(mL m).at 3 0 rfl rfl rfl (by decide)
theorem RecT.set_epoch(m:RecT){o:Nat}(ho:o=176)(x:Int):(ints m.flat).set o (Value.int .i64 x)=ints ({m with epoch:=x}:RecT).flat:=by subst ho;rw[fi,fi];exact(mL m).set 3 0 _ rfl rfl rfl (by decide)
theorem RecT.pt_ballot(m:RecT){o:Nat}(j:Nat)(ho:o=177+j)(h:j<2){r:Option Value}(hr:(ints m.ballot.flat)[j]?=r):(ints m.flat)[o]?=r:=by subst ho;rw[←hr,fi];exact(mL m).at 4 j rfl rfl rfl h
theorem RecT.sub_ballot(m:RecT){o k:Nat}(j:Nat)(ho:o=177+j)(h:j+k≤2){r:List Value}(hr:((ints m.ballot.flat).drop j).take k=r):((ints m.flat).drop o).take k=r:=by subst ho;rw[←hr,fi];exact(mL m).sub 4 j k rfl rfl rfl h
abbrev rY:= @RecT.sub_ballot
theorem RecT.wr_ballot_(m:RecT){o:Nat}(j:Nat){vs:List Value}{u':BallotT}(ho:o=177+j)(h:j+vs.length≤2)(hw:wr (ints m.ballot.flat) j vs=ints u'.flat):wr (ints m.flat) o vs=ints ({m with ballot:=u'}:RecT).flat:=by subst ho;rw[fi,fi];exact(mL m).putIn 4 j vs rfl rfl rfl h hw
theorem RecT.sp_ballot(m:RecT):((ints m.flat).drop 177).take 2=ints m.ballot.flat:=rY m 0 rfl (by decide) (whole ((au _):(ints m.ballot.flat).length=2))
theorem RecT.wp_ballot(m:RecT)(u:BallotT):wr (ints m.flat) 177 (ints u.flat)=ints ({m with ballot:=u}:RecT).flat:=RecT.wr_ballot_ m 0 rfl (by rw[bi];exact cV ((au _):(ints u.flat).length=2)) (cC (Eq.trans ((au _):(ints m.ballot.flat).length=2) (Eq.symm ((au _):(ints u.flat).length=2))))
theorem RecT.sub_change(m:RecT){o k:Nat}(j:Nat)(ho:o=179+j)(h:j+k≤3){r:List Value}(hr:((ints m.change.flat).drop j).take k=r):((ints m.flat).drop o).take k=r:=by subst ho;rw[←hr,fi];exact(mL m).sub 5 j k rfl rfl rfl h
abbrev O1:= @RecT.sub_change
theorem RecT.wr_change_(m:RecT){o:Nat}(j:Nat){vs:List Value}{u':ChangeT}(ho:o=179+j)(h:j+vs.length≤3)(hw:wr (ints m.change.flat) j vs=ints u'.flat):wr (ints m.flat) o vs=ints ({m with change:=u'}:RecT).flat:=by subst ho;rw[fi,fi];exact(mL m).putIn 5 j vs rfl rfl rfl h hw
theorem RecT.sp_change(m:RecT):((ints m.flat).drop 179).take 3=ints m.change.flat:=O1 m 0 rfl (by decide) (whole ((aN _):(ints m.change.flat).length=3))
theorem RecT.wp_change(m:RecT)(u:ChangeT):wr (ints m.flat) 179 (ints u.flat)=ints ({m with change:=u}:RecT).flat:=RecT.wr_change_ m 0 rfl (by rw[bi];exact cV ((aN _):(ints u.flat).length=3)) (cC (Eq.trans ((aN _):(ints m.change.flat).length=3) (Eq.symm ((aN _):(ints u.flat).length=3))))
theorem RecT.sub_view(m:RecT){o k:Nat}(j:Nat)(ho:o=182+j)(h:j+k≤7){r:List Value}(hr:((ints m.view.flat).drop j).take k=r):((ints m.flat).drop o).take k=r:=by subst ho;rw[←hr,fi];exact(mL m).sub 6 j k rfl rfl rfl h
abbrev R6:= @RecT.sub_view
theorem RecT.wr_view_(m:RecT){o:Nat}(j:Nat){vs:List Value}{u':ViewT}(ho:o=182+j)(h:j+vs.length≤7)(hw:wr (ints m.view.flat) j vs=ints u'.flat):wr (ints m.flat) o vs=ints ({m with view:=u'}:RecT).flat:=by subst ho;rw[fi,fi];exact(mL m).putIn 6 j vs rfl rfl rfl h hw
theorem RecT.sp_view(m:RecT):((ints m.flat).drop 182).take 7=ints m.view.flat:=R6 m 0 rfl (by decide) (whole ((ap _):(ints m.view.flat).length=7))
theorem RecT.wp_view(m:RecT)(u:ViewT):wr (ints m.flat) 182 (ints u.flat)=ints ({m with view:=u}:RecT).flat:=RecT.wr_view_ m 0 rfl (by rw[bi];exact cV ((ap _):(ints u.flat).length=7)) (cC (Eq.trans ((ap _):(ints m.view.flat).length=7) (Eq.symm ((ap _):(ints u.flat).length=7))))
theorem OpT.sl(m:OpT):SL [[Value.int .i64 m.kind],[Value.int .i64 m.at'],[Value.int .i64 m.to'],[Value.int .i64 m.key],[Value.int .i64 m.n],ints m.change.flat,[Value.int .i64 m.mask],[Value.int .i64 m.torn],[Value.int .i64 m.cut]] [1,1,1,1,1,3,1,1,1]:=(.cons rfl (.cons rfl (.cons rfl (.cons rfl (.cons rfl (.cons (aN _) (.cons rfl (.cons rfl (.cons rfl .nil)))))))))
abbrev zT:= @OpT.sl
abbrev OpT.sg(m:OpT):List (List Value):=[[Value.int .i64 m.kind],[Value.int .i64 m.at'],[Value.int .i64 m.to'],[Value.int .i64 m.key],[Value.int .i64 m.n],ints m.change.flat,[Value.int .i64 m.mask],[Value.int .i64 m.torn],[Value.int .i64 m.cut]]
theorem OpT.eq(m:OpT):ints m.flat=[[Value.int .i64 m.kind],[Value.int .i64 m.at'],[Value.int .i64 m.to'],[Value.int .i64 m.key],[Value.int .i64 m.n],ints m.change.flat,[Value.int .i64 m.mask],[Value.int .i64 m.torn],[Value.int .i64 m.cut]].flatten:=by simp[OpT.flat,ints]
abbrev wL:= @OpT.eq
theorem OpT.len(m:OpT):(ints m.flat).length=11:=by rw[wL,(zT m).len];rfl
abbrev L3:= @OpT.len
theorem OpT.at_kind(m:OpT){o:Nat}(ho:o=0):(ints m.flat)[o]?=some (Value.int .i64 m.kind):=by subst ho;rw[wL];exact(zT m).at 0 0 rfl rfl rfl (by decide)
abbrev dm:= @OpT.at_kind
theorem OpT.at_at'(m:OpT){o:Nat}(ho:o=1):(ints m.flat)[o]?=some (Value.int .i64 m.at'):=by subst ho;rw[wL];exact(zT m).at 1 0 rfl rfl rfl (by decide)
abbrev bR:= @OpT.at_at'
theorem OpT.at_to'(m:OpT){o:Nat}(ho:o=2):(ints m.flat)[o]?=some (Value.int .i64 m.to'):=by subst ho;rw[wL];exact(zT m).at 2 0 rfl rfl rfl (by decide)
abbrev jf:= @OpT.at_to'
theorem OpT.at_key(m:OpT){o:Nat}(ho:o=3):(ints m.flat)[o]?=some (Value.int .i64 m.key):=by subst ho;rw[wL];exact(zT m).at 3 0 rfl rfl rfl (by decide)
abbrev qj:= @OpT.at_key
theorem OpT.at_n(m:OpT){o:Nat}(ho:o=4):(ints m.flat)[o]?=some (Value.int .i64 m.n):=by subst ho;rw[wL];exact(zT m).at 4 0 rfl rfl rfl (by decide)
abbrev y7:= @OpT.at_n
theorem OpT.sub_change(m:OpT){o k:Nat}(j:Nat)(ho:o=5+j)(h:j+k≤3){r:List Value}(hr:((ints m.change.flat).drop j).take k=r):((ints m.flat).drop o).take k=r:=by subst ho;rw[←hr,wL];exact(zT m).sub 5 j k rfl rfl rfl h
theorem OpT.wr_change_(m:OpT){o:Nat}(j:Nat){vs:List Value}{u':ChangeT}(ho:o=5+j)(h:j+vs.length≤3)(hw:wr (ints m.change.flat) j vs=ints u'.flat):wr (ints m.flat) o vs=ints ({m with change:=u'}:OpT).flat:=by subst ho;rw[wL,wL];exact(zT m).putIn 5 j vs rfl rfl rfl h hw
theorem OpT.sp_change(m:OpT):((ints m.flat).drop 5).take 3=ints m.change.flat:=OpT.sub_change m 0 rfl (by decide) (whole ((aN _):(ints m.change.flat).length=3))
theorem OpT.wp_change(m:OpT)(u:ChangeT):wr (ints m.flat) 5 (ints u.flat)=ints ({m with change:=u}:OpT).flat:=OpT.wr_change_ m 0 rfl (by rw[bi];exact cV ((aN _):(ints u.flat).length=3)) (cC (Eq.trans ((aN _):(ints m.change.flat).length=3) (Eq.symm ((aN _):(ints u.flat).length=3))))
theorem OpT.at_mask(m:OpT){o:Nat}(ho:o=8):(ints m.flat)[o]?=some (Value.int .i64 m.mask):=by subst ho;rw[wL];exact(zT m).at 6 0 rfl rfl rfl (by decide)
theorem OpT.at_torn(m:OpT){o:Nat}(ho:o=9):(ints m.flat)[o]?=some (Value.int .i64 m.torn):=by subst ho;rw[wL];exact(zT m).at 7 0 rfl rfl rfl (by decide)
theorem OpT.at_cut(m:OpT){o:Nat}(ho:o=10):(ints m.flat)[o]?=some (Value.int .i64 m.cut):=by subst ho;rw[wL];exact(zT m).at 8 0 rfl rfl rfl (by decide)
theorem ReplyT.sl(m:ReplyT):SL [[Value.int .i64 m.op],[Value.int .i64 m.err],[Value.int .i64 m.value]] [1,1,1]:=(.cons rfl (.cons rfl (.cons rfl .nil)))
abbrev Sg:= @ReplyT.sl
abbrev ReplyT.sg(m:ReplyT):List (List Value):=[[Value.int .i64 m.op],[Value.int .i64 m.err],[Value.int .i64 m.value]]
theorem ReplyT.eq(m:ReplyT):ints m.flat=[[Value.int .i64 m.op],[Value.int .i64 m.err],[Value.int .i64 m.value]].flatten:=by simp[ReplyT.flat,ints]
abbrev Nn:= @ReplyT.eq
theorem ReplyT.len(m:ReplyT):(ints m.flat).length=3:=by rw[Nn,(Sg m).len];rfl
abbrev zK:= @ReplyT.len
theorem ReplyT.at_op(m:ReplyT){o:Nat}(ho:o=0):(ints m.flat)[o]?=some (Value.int .i64 m.op):=by subst ho;rw[Nn];exact(Sg m).at 0 0 rfl rfl rfl (by decide)
theorem ReplyT.at_err(m:ReplyT){o:Nat}(ho:o=1):(ints m.flat)[o]?=some (Value.int .i64 m.err):=by subst ho;rw[Nn];exact(Sg m).at 1 0 rfl rfl rfl (by decide)
theorem ReplyT.at_value(m:ReplyT){o:Nat}(ho:o=2):(ints m.flat)[o]?=some (Value.int .i64 m.value):=by subst ho;rw[Nn];exact(Sg m).at 2 0 rfl rfl rfl (by decide)
end Api
end
section
namespace Leg
open Go Api
variable {P:Program} {w0:World} {F:Hl} {n:Nat} {ops:Array Oper} {Q:QQ} {D:List Deferred} {L:List (Nat×Value)} {H:List HP} {d:Nat} {o:Oper} {l:List Oper}
theorem SW{o:Oper}{l:List Oper}{α:Type}{f:α→List Int}{t e:TypeId}{p y:Operand}{b m:Nat}{x x0:α}(k:Nat)(hs:(P.info? t).map (·.size)=some m)(hf: ∀x,(ints (f x)).length=m)(h:TL P w0 F n ops Q l D L (H.set k (ak b (ints (f x)) e)))(hw:Want n D ops o L:=by first|exact ab rfl|exact cq rfl rfl rfl)(hd:o.dst=none:=by exact rfl)(ho:o.op= .store t p y:=by exact rfl)(hp:cL L p=some (.pointer (some ⟨b,0,none⟩)):=by exact rfl)(hy:cL L y=some (.agg (ints (f x)).toArray):=by exact rfl)(hk:Nat.blt k H.length=true:=by exact rfl)(hH:H.getD k (λ_=>True)=ak b (ints (f x0)) e:=by exact rfl):TL P w0 F n ops Q (o::l) D L H:=bT (vs:=ints (f x)) hw ho hd hp hy rfl (by rw[hf];exact hs) (bw _) hk hH (by rw[hf,hf];omega) (cC ((hf x0).trans (hf x).symm)) rfl h
theorem LY{S:World→Prop}{d fuel:Nat}{listed:Array Bool}{o:Oper}{α:Type}{f:α→List Int}{t e:TypeId}{x:Operand}{dt:TypeDesc}{b m:Nat}{y:α}{z:Nat×Nat}(i:Nat)(ht:P.underlying t=some dt)(hz:(P.info? t).map (·.size)=some m)(hf: ∀x,(ints (f x)).length=m)(h:TD P w0 F n ops Q S fuel (listed.setIfInBounds i true) D ((d, .agg (ints (f y)).toArray)::L) H)(hi:ops[i]?=some o:=by exact rfl)(hw:Want n D ops o L:=by first|exact ab rfl|exact cq rfl rfl rfl)(hd:o.dst=some d:=by exact rfl)(hn:Nat.blt d n=true:=by exact rfl)(hs:(Region.noSelect ops&&Region.free .any ops listed i&&(Region.ready .any ops listed).contains i)=true:=by kernel_rfl)(hQ: ∀c a v w,Q (.panic c) (a.put o.dst v) w→Q (.panic c) a w:=by exact λ_ _ _ _ h=>h)(ho:o.op= .load t x:=by exact rfl)(hp:eB dt=false:=by exact rfl)(hx:cL L x=some (.pointer (some ⟨b,0,none⟩)):=by exact rfl)(hR:Rd S b (.cells (ints (f y)).toArray e z):=by first|exact λ_ h=>h.2.1|exact λ_ h=>h.2.2.1|exact λ_ h=>h.2.2.2.1|exact λ_ h=>h.2.2.2.2.1|exact λ_ h=>h.2.2.2.2.2.1):TD P w0 F n ops Q S (fuel+1) listed D L H:=by
  rw[ay,ay]at hs;exact L1 hi hs.1.1 hs.1.2 hs.2 hQ hw hd hn (aP ho ht hp hz hx hR (hf y) (by rw[ba,az (by rw[hf];exact aH _)])) h
theorem SP{o:Oper}{l:List Oper}{α β:Type}{f:α→List Int}{c:β→List Value}{put:β→α→β}{t e:TypeId}{p y:Operand}{b j m m':Nat}{x:α}{z:β}(k:Nat)(hs:(P.info? t).map (·.size)=some m)(hf: ∀x,(ints (f x)).length=m)(hc: ∀z,(c z).length=m')(hw': ∀z x,wr (c z) j (ints (f x))=c (put z x))(h:TL P w0 F n ops Q l D L (H.set k (ak b (c (put z x)) e)))(hw:Want n D ops o L:=by first|exact ab rfl|exact cq rfl rfl rfl)(hd:o.dst=none:=by exact rfl)(ho:o.op= .store t p y:=by exact rfl)(hp:cL L p=some (.pointer (some ⟨b,j,none⟩)):=by exact rfl)(hy:cL L y=some (.agg (ints (f x)).toArray):=by exact rfl)(hk:Nat.blt k H.length=true:=by exact rfl)(hH:H.getD k (λ_=>True)=ak b (c z) e:=by exact rfl)(hj:Nat.ble (j+m) m'=true:=by first|exact rfl|exact Nat.ble_eq_true_of_le (by omega)):TL P w0 F n ops Q (o::l) D L H:=bT (vs:=ints (f x)) hw ho hd hp hy rfl (by rw[hf];exact hs) (bw _) hk hH (by rw[hf,hc];exact fJ hj) (hw' z x) rfl h
theorem SS{o:Oper}{l:List Oper}{t e:TypeId}{x y:Operand}{b j m:Nat}{cs cs':List Value}{v:Value}(k:Nat)(hs:(P.info? t).map (·.size)=some 1)(hl:cs.length=m)(hc:cs.set j v=cs')(h:TL P w0 F n ops Q l D L (H.set k (ak b cs' e)))(hw:Want n D ops o L:=by first|exact ab rfl|exact cq rfl rfl rfl)(hd:o.dst=none:=by exact rfl)(ho:o.op= .store t x y:=by exact rfl)(hx:cL L x=some (.pointer (some ⟨b,j,none⟩)):=by exact rfl)(hy:cL L y=some v:=by exact rfl)(h1:v.oneCell'=true:=by exact rfl)(hk:Nat.blt k H.length=true:=by exact rfl)(hH:H.getD k (λ_=>True)=ak b cs e:=by exact rfl)(hj:Nat.blt j m=true:=by first|exact rfl|exact Nat.ble_eq_true_of_le (by omega)):TL P w0 F n ops Q (o::l) D L H:=bF hw ho hd hx hy h1 hs hk hH (hl▸lb hj) hc rfl h
theorem LW{α:Type}{f:α→List Int}{t e:TypeId}{x:Operand}{dt:TypeDesc}{b m:Nat}{z:α}(k:Nat)(ht:P.underlying t=some dt)(hs:(P.info? t).map (·.size)=some m)(hf: ∀x,(ints (f x)).length=m)(h:TL P w0 F n ops Q l D ((d, .agg (ints (f z)).toArray)::L) H)(hw:Want n D ops o L:=by first|exact ab rfl|exact cq rfl rfl rfl)(hd:o.dst=some d:=by exact rfl)(hn:Nat.blt d n=true:=by exact rfl)(ho:o.op= .load t x:=by exact rfl)(hp:eB dt=false:=by exact rfl)(hx:cL L x=some (.pointer (some ⟨b,0,none⟩)):=by exact rfl)(hk:Nat.blt k H.length=true:=by exact rfl)(hH:H.getD k (λ_=>True)=ak b (ints (f z)) e:=by exact rfl):TL P w0 F n ops Q (o::l) D L H:=mx hw hd hn (aP ho ht hp hs hx (fj k hk hH) (hf z) (whole (hf z))) h
theorem LV{α β:Type}{f:α→List Int}{c:β→List Value}{g:β→α}{t e:TypeId}{x:Operand}{dt:TypeDesc}{b j m:Nat}{z:β}{y:α}(k:Nat)(ht:P.underlying t=some dt)(hs:(P.info? t).map (·.size)=some m)(hf: ∀x,(ints (f x)).length=m)(hg: ∀z,((c z).drop j).take m=ints (f (g z)))(h:TL P w0 F n ops Q l D ((d, .agg (ints (f y)).toArray)::L) H)(hw:Want n D ops o L:=by first|exact ab rfl|exact cq rfl rfl rfl)(hd:o.dst=some d:=by exact rfl)(hn:Nat.blt d n=true:=by exact rfl)(ho:o.op= .load t x:=by exact rfl)(hp:eB dt=false:=by exact rfl)(hx:cL L x=some (.pointer (some ⟨b,j,none⟩)):=by exact rfl)(hk:Nat.blt k H.length=true:=by exact rfl)(hH:H.getD k (λ_=>True)=ak b (c z) e:=by exact rfl)(hyz:g z=y:=by exact rfl):TL P w0 F n ops Q (o::l) D L H:=mx hw hd hn (aP ho ht hp hs hx (fj k hk hH) (hf _) ((hg z).trans (by rw[hyz]))) h
theorem LT{t e:TypeId}{x:Operand}{dt:TypeDesc}{b j:Nat}{cs:List Value}(k:Nat)(ht:P.underlying t=some dt)(v:Value)(h:TL P w0 F n ops Q l D ((d,v)::L) H)(hw:Want n D ops o L:=by first|exact ab rfl|exact cq rfl rfl rfl)(hd:o.dst=some d:=by exact rfl)(hn:Nat.blt d n=true:=by exact rfl)(ho:o.op= .load t x:=by exact rfl)(hp:eB dt=true:=by exact rfl)(hx:cL L x=some (.pointer (some ⟨b,j,none⟩)):=by exact rfl)(hk:Nat.blt k H.length=true:=by exact rfl)(hH:H.getD k (λ_=>True)=ak b cs e:=by exact rfl)(hc:cs[j]?=some v):TL P w0 F n ops Q (o::l) D L H:=mx hw hd hn (ic ho ht hp hx (fj k hk hH) hc) h
theorem mI{P:Program}{n:Nat}{D:List Deferred}{L:List (Nat×Value)}{S:World→Prop}{o:Oper}{α:Type}{f:α→List Int}{g:α→List (List Value)}{t:TypeId}{ps:Array (Nat×Operand)}{fs:Array Field}{vals:List (Nat×Value)}(z x:α)(parts:List (Nat×List Value))(ht:P.underlying t=some (.struct fs))(hg: ∀m,ints (f m)=(g m).flatten)(ho:o.op= .build t ps:=by exact rfl)(hx:Mb L ps.toList=some vals:=by exact rfl)(hz:(P.info? t).map (·.zero)=some (some (.agg (g z).flatten.toArray)):=by kernel_rfl)(hp:fs.toList.mapM (λf=>(P.info? f.type).map λi=>(f.offset,i.size))=some (wA (g z) 0):=by kernel_rfl)(hv:vals.map (λp=>(p.1,p.2.cells))=parts.map (λp=>(p.1,p.2.toArray)):=by exact rfl)(h:lq (g z) parts=some (g x):=by repeat (first|exact mi|exact rfl|refine fw rfl (by first|exact rfl|exact(am _).trans (am _).symm|exact(ap _).trans (ap _).symm|exact(au _).trans (au _).symm|exact(aN _).trans (aN _).symm|exact(bu _).trans (bu _).symm) ?_)):PV P n D L S o (.agg (ints (f x)).toArray):=(hg x).symm▸zS ho hx ht hz hp hv h rfl
end Leg
end

section
namespace Codec
open Go Leg Api
theorem qA(c:UInt8):UInt8.ofNat c.toNat=c:=by simp
theorem Au: ∀(bs:List UInt8) (k acc m:Nat) (r:List UInt8),k≤9→kR k acc bs=some (m,r)→∃p,m=acc+p*2^ (7*k)∧bs=vn p++r∧(0<k→0<p)∧p<2^ (7* (9-k))
 | [],k,acc,m,r,_,h=>by simp[kR]at h
 |c::cs,k,acc,m,r,hk,h=>by
  have hc:c.toNat<256:=c.toNat_lt;simp only[kR]at h;split at h
  · cases h
  · rename_i h9
    split at h
    · rename_i h128
      obtain⟨p,h1,h2,h3,h4⟩:=Au cs (k+1) _ m r (by omega) h;have hp:=h3 (by omega);refine⟨c.toNat%128+128*p,?_,?_,λ_=>by omega,?_⟩
      · rw[h1,show 7* (k+1)=7*k+7 by omega,Nat.pow_add,fC,HM]
        congr 2;rw[Nat.mul_comm 128 p,Nat.mul_assoc,Nat.mul_comm 128]
      · rw[pL (by omega),show(c.toNat%128+128*p)%128+128=c.toNat by omega,show(c.toNat%128+128*p) / 128=p by omega,qA,h2];rfl
      · rw[show 7* (9-k)=7* (9- (k+1))+7 by omega,Nat.pow_add];omega
    · rename_i h128
      split at h
      · cases h
      · rename_i h0
        simp only[Option.some.injEq,Prod.mk.injEq]at h;obtain⟨rfl,rfl⟩:=h;refine⟨c.toNat,by rw[show c.toNat%128=c.toNat by omega],by rw[om (by omega),qA];rfl,λ_=>by omega,?_⟩;have:2^7≤2^ (7* (9-k)):=Nat.pow_le_pow_right (by decide) (by omega);omega
theorem iE{bs r:List UInt8}{n:Int}(h:oa bs=some (n,r)):0≤n∧n<9223372036854775808∧bs=oc n++r:=by
 simp only[oa]at h;split at h
 · cases h
 · rename_i m r' hm
   simp only[Option.some.injEq,Prod.mk.injEq]at h;obtain⟨rfl,rfl⟩:=h;obtain⟨p,h1,h2,_,h4⟩:=Au bs 0 0 m r' (by omega) hm;simp at h1;subst h1;refine⟨by omega,by simp at h4;omega,?_⟩;rw[h2,oc];congr 2;simp at h4;omega
def Bd(n:Int):Prop:=0≤n∧n<1099511627777
structure TameC(c:CellT):Prop where
 inn:Bd c.inn
 out:Bd c.out
 given: ∀(j:Nat) (h:j<5),Bd c.given[j]
structure TameR(x:RowT):Prop where
 version:0≤x.version∧x.version<9223372036854775808
 cells: ∀(k:Nat) (h:k<4),TameC x.cells[k]
 heir: ∀(i:Nat) (h:i<5),0≤x.heir[i]∧x.heir[i]<9223372036854775808
 left: ∀(i k:Nat) (h:i<5) (hk:k<4),TameC x.left[i][k]
 none: ∀(i:Nat) (h:i<5),x.heir[i]=(0:Int)→x.left[i]=RowT.zero.left[0]
def Ka(c:CellT):CellT:=⟨Ma c.inn,Ma c.out,c.given.map Ma⟩
theorem J0(c:CellT):TameC (Ka c):=by
 have h:=λn=>OI n
 refine⟨⟨(h _).1,by have:=(h c.inn).2;show Ma c.inn<_;omega⟩,⟨(h _).1,by have:=(h c.out).2;show Ma c.out<_;omega⟩,λj hj=>?_⟩;show Bd ((c.given.map Ma)[j]);rw[Vector.getElem_map];exact⟨(h _).1,by have:=(h c.given[j]).2;omega⟩
theorem FH:Ka CellT.zero=CellT.zero:=by
 simp only[Ka,CellT.zero,CellT.mk.injEq];exact⟨by decide,by decide,by simp[Ma]⟩
theorem tl{n:Int}(h:0≤n∧n<9223372036854775808):(Lit.int .i64 n).wf=true:=by
 have m1:IntKind.i64.min= -9223372036854775808:=by decide
 have m2:IntKind.i64.max=9223372036854775807:=by decide
 simp only[Lit.wf,m1,m2,ay,decide_eq_true_eq];omega
theorem TameC.wf{c:CellT}(h:TameC c):WF c.flat:=λn hn=>by
 simp only[CellT.flat,cg]at hn;have s: ∀n,Bd n→(Lit.int .i64 n).wf=true:=λn h=>tl ⟨h.1,by have:=h.2;omega⟩
 rcases hn with rfl|rfl|hn
 · exact s _ h.inn
 · exact s _ h.out
 · obtain⟨j,hj,rfl⟩:=fB hn
   rw[aB]at hj;have:=s _ (h.given j hj)
   simpa using this
theorem CO{v:Vector CellT 4}(h: ∀(k:Nat) (hk:k<4),TameC v[k]):WF (bS v.toList):=λn hn=>by
 obtain⟨c,hc,hn⟩:=kB.1 hn;obtain⟨j,hj,rfl⟩:=fB hc;rw[aB]at hj;have:=(h j hj).wf n;simp only[Vector.getElem_toList]at hn;exact this hn
theorem TameR.wf{x:RowT}(h:TameR x):WF x.flat:=λn hn=>by
 simp only[RowT.flat,cg,bP]at hn;rcases hn with rfl|hn|hn|hn
 · exact tl h.version
 · exact CO h.cells n hn
 · obtain⟨j,hj,rfl⟩:=fB hn
   rw[aB]at hj
   simpa using tl (h.heir j hj)
 · obtain⟨v,hv,hn⟩:=kB.1 hn
   obtain⟨j,hj,rfl⟩:=fB hv;rw[aB]at hj;simp only[Vector.getElem_toList]at hn;exact CO (λk hk=>h.left j k hj hk) n hn
theorem jm{P:Program}{t:TypeId}{l:List Int}{c:Nat}(hu:(match P.underlying t with|some (.struct _)|some (.array _ _)=>true|_=>false)=true)(hc:P.cellsOf t=c)(hl:l.length=c):(agI l).formed P t=true:=by
 have e:((ints l).toArray.size==P.cellsOf t)=true:=by simp[ints,hl,hc]
 unfold agI Value.formed;split at hu
 · rename_i h;simp only[h];exact e
 · rename_i h;simp only[h];exact e
 · cases hu
theorem Jj{c d:CellT}(h:c.flat=d.flat):c=d:=by
 obtain⟨i,o,g⟩:=c;obtain⟨i',o',g'⟩:=d;simp only[CellT.flat,List.cons.injEq]at h;obtain⟨rfl,rfl,h⟩:=h;rw[Vector.toList_inj.1 h]
theorem bp{α β:Type}{p:Ps α}{q:α→Ps β}{bs r:List UInt8}{b:β}(h:pb p q bs=some (b,r)): ∃a r',p bs=some (a,r')∧q a r'=some (b,r):=by
 cases e:p bs with
 |none=>rw[ca e]at h;cases h
 |some x=>obtain⟨a,r'⟩:=x;rw[aE e]at h;exact⟨a,r',rfl,h⟩
theorem fZ{α:Type}{a b:α}{bs r:List UInt8}(h:pr a bs=some (b,r)):a=b∧bs=r:=by
 simp only[pr,Option.some.injEq,Prod.mk.injEq]at h;exact h
theorem c7{lim n:Int}{bs r:List UInt8}(h:fE lim bs=some (n,r)):(0≤n∧n<lim∧n<9223372036854775808)∧bs=oc n++r:=by
 obtain⟨a,r',h1,h2⟩:=bp h;obtain⟨k1,k2,k3⟩:=iE h1;split at h2
 · cases h2
 · obtain⟨rfl,rfl⟩:=fZ h2
   exact⟨⟨k1,by omega,k2⟩,k3⟩
theorem A4{c:CellT}{bs r:List UInt8}(h:mY bs=some (c,r)):TameC c∧bs=bn c.flat++r:=by
 obtain⟨i,_,h1,h⟩:=bp h;obtain⟨o,_,h2,h⟩:=bp h;obtain⟨a,_,h3,h⟩:=bp h;obtain⟨b,_,h4,h⟩:=bp h;obtain⟨d,_,h5,h⟩:=bp h;obtain⟨e,_,h6,h⟩:=bp h;obtain⟨f,_,h7,h⟩:=bp h;obtain⟨rfl,rfl⟩:=fZ h;obtain⟨k1,rfl⟩:=c7 h1;obtain⟨k2,rfl⟩:=c7 h2;obtain⟨k3,rfl⟩:=c7 h3;obtain⟨k4,rfl⟩:=c7 h4;obtain⟨k5,rfl⟩:=c7 h5;obtain⟨k6,rfl⟩:=c7 h6;obtain⟨k7,rfl⟩:=c7 h7;have s: ∀{n:Int},(0≤n∧n<1099511627777∧n<9223372036854775808)→Bd n:=λh=>⟨h.1,h.2.1⟩
 refine⟨⟨s k1,s k2,λj hj=>?_⟩,by simp[CellT.flat,bn]⟩
 match j,hj with
 |0,_=>exact s k3
 |1,_=>exact s k4
 |2,_=>exact s k5
 |3,_=>exact s k6
 |4,_=>exact s k7
theorem oQ{v:ViewT}{bs r:List UInt8}(h:nB bs=some (v,r)):((0≤v.epoch∧v.epoch<9223372036854775808)∧(0≤v.members∧v.members<32)∧∀(i:Nat) (hi:i<5),0≤v.heirs[i]∧v.heirs[i]<6)∧bs=bn v.flat++r:=by
 obtain⟨i,_,h1,h⟩:=bp h;obtain⟨o,_,h2,h⟩:=bp h;obtain⟨a,_,h3,h⟩:=bp h;obtain⟨b,_,h4,h⟩:=bp h;obtain⟨d,_,h5,h⟩:=bp h;obtain⟨e,_,h6,h⟩:=bp h;obtain⟨f,_,h7,h⟩:=bp h;obtain⟨rfl,rfl⟩:=fZ h;obtain⟨k1,k1',rfl⟩:=iE h1;obtain⟨k2,rfl⟩:=c7 h2;obtain⟨k3,rfl⟩:=c7 h3;obtain⟨k4,rfl⟩:=c7 h4;obtain⟨k5,rfl⟩:=c7 h5;obtain⟨k6,rfl⟩:=c7 h6;obtain⟨k7,rfl⟩:=c7 h7;refine⟨⟨⟨k1,k1'⟩,⟨k2.1,k2.2.1⟩,λj hj=>?_⟩,by simp[ViewT.flat,bn]⟩
 match j,hj with
 |0,_=>exact⟨k3.1,k3.2.1⟩
 |1,_=>exact⟨k4.1,k4.2.1⟩
 |2,_=>exact⟨k5.1,k5.2.1⟩
 |3,_=>exact⟨k6.1,k6.2.1⟩
 |4,_=>exact⟨k7.1,k7.2.1⟩
theorem oo{c:ChangeT}{bs r:List UInt8}(h:l8 bs=some (c,r)):((0≤c.kind∧c.kind<2)∧(0≤c.who∧c.who<5)∧(0≤c.heir∧c.heir<5))∧bs=bn c.flat++r:=by
 obtain⟨a,_,h1,h⟩:=bp h;obtain⟨b,_,h2,h⟩:=bp h;obtain⟨d,_,h3,h⟩:=bp h;obtain⟨rfl,rfl⟩:=fZ h;obtain⟨k1,rfl⟩:=c7 h1;obtain⟨k2,rfl⟩:=c7 h2;obtain⟨k3,rfl⟩:=c7 h3;exact⟨⟨⟨k1.1,k1.2.1⟩,⟨k2.1,k2.2.1⟩,⟨k3.1,k3.2.1⟩⟩,by simp[ChangeT.flat,bn]⟩
theorem jT{b:BallotT}{bs r:List UInt8}(h:kF bs=some (b,r)):((0≤b.round∧b.round<9223372036854775808)∧(0≤b.who∧b.who<5))∧bs=bn b.flat++r:=by
 obtain⟨a,_,h1,h⟩:=bp h;obtain⟨d,_,h2,h⟩:=bp h;obtain⟨rfl,rfl⟩:=fZ h;obtain⟨k1,k1',rfl⟩:=iE h1;obtain⟨k2,rfl⟩:=c7 h2;exact⟨⟨⟨k1,k1'⟩,⟨k2.1,k2.2.1⟩⟩,by simp[BallotT.flat,bn]⟩
theorem yS: ∀(m k:Nat) (x y:RowT) (bs r:List UInt8),m=4-k→k≤4→nV m k x bs=some (y,r)→
 (y.version=x.version∧y.heir=x.heir∧y.left=x.left)∧(∀j (h:j<4),j<k→y.cells[j]=x.cells[j])∧(∀j (h:j<4),k≤j→TameC y.cells[j])∧bs=bn (bS (y.cells.toList.drop k))++r
 |0,k,x,y,bs,r,hm,hk,h=>by
  obtain⟨rfl,rfl⟩:=fZ h;obtain rfl:k=4:=by omega
  exact⟨⟨rfl,rfl,rfl⟩,λ_ _ _=>rfl,λj h h'=>by omega,by rw[fl (by simp)];rfl⟩
 |m+1,k,x,y,bs,r,hm,hk,h=>by
  have hk4:k<4:=by omega
  obtain⟨c,r',h1,h2⟩:=bp h;obtain⟨k1,rfl⟩:=A4 h1;rw[dif_pos hk4]at h2;obtain⟨i1,i2,i3,rfl⟩:=yS m (k+1) _ y r' r (by omega) (by omega) h2;have e:y.cells[k]=c:=by rw[i2 k hk4 (by omega)];simp
  refine⟨i1,λj h hj=>by rw[i2 j h (by omega)];simp[Vector.getElem_set,show k≠j by omega],λj h hj=>?_,?_⟩
  · by_cases q:j=k
    · subst q;rw[e];exact k1
    · exact i3 j h (by omega)
  · rw[pK (l:=y.cells.toList) (k:=k) (by simpa using hk4),Vector.getElem_toList,e,aI]
theorem AG{i:Nat}(hi:i<5): ∀(m k:Nat) (x y:RowT) (bs r:List UInt8),m=4-k→k≤4→q6 m i k x bs=some (y,r)→
 (y.version=x.version∧y.heir=x.heir∧y.cells=x.cells)∧(∀j (h:j<5),j≠i→y.left[j]=x.left[j])∧(∀j (h:j<4),j<k→y.left[i][j]=x.left[i][j])∧(∀j (h:j<4),k≤j→TameC y.left[i][j])∧bs=bn (bS (y.left[i].toList.drop k))++r
 |0,k,x,y,bs,r,hm,hk,h=>by
  obtain⟨rfl,rfl⟩:=fZ h;obtain rfl:k=4:=by omega
  exact⟨⟨rfl,rfl,rfl⟩,λ_ _ _=>rfl,λ_ _ _=>rfl,λj h h'=>by omega,by rw[fl (by simp)];rfl⟩
 |m+1,k,x,y,bs,r,hm,hk,h=>by
  have hk4:k<4:=by omega
  obtain⟨c,r',h1,h2⟩:=bp h;obtain⟨k1,rfl⟩:=A4 h1;rw[dif_pos ⟨hi,hk4⟩]at h2;obtain⟨i1,i2,i3,i4,rfl⟩:=AG hi m (k+1) _ y r' r (by omega) (by omega) h2;have e:y.left[i][k]=c:=by rw[i3 k hk4 (by omega)];simp
  refine⟨i1,λj h hj=>by rw[i2 j h hj];simp[Vector.getElem_set,Ne.symm hj],λj h hj=>by rw[i3 j h (by omega)];simp[Vector.getElem_set,show k≠j by omega],λj h hj=>?_,?_⟩
  · by_cases q:j=k
    · subst q;rw[e];exact k1
    · exact i4 j h (by omega)
  · rw[pK (l:=y.left[i].toList) (k:=k) (by simpa using hk4),Vector.getElem_toList,e,aI]
theorem uS:TameC CellT.zero:=by rw[←FH];exact J0 _
theorem sU: ∀(m i:Nat) (x y:RowT) (bs r:List UInt8),m=5-i→i≤5→(∀j (h:j<5),i≤j→x.left[j]=RowT.zero.left[0])→jP m i x bs=some (y,r)→
 (y.version=x.version∧y.cells=x.cells)∧(∀j (h:j<5),j<i→y.heir[j]=x.heir[j]∧y.left[j]=x.left[j])∧
 (∀j (h:j<5),i≤j→(0≤y.heir[j]∧y.heir[j]<9223372036854775808)∧(∀k (hk:k<4),TameC y.left[j][k])∧(y.heir[j]=(0:Int)→y.left[j]=RowT.zero.left[0]))∧bs=fg y m i++r
 |0,i,x,y,bs,r,hm,hi,hz,h=>by
  obtain⟨rfl,rfl⟩:=fZ h;obtain rfl:i=5:=by omega
  exact⟨⟨rfl,rfl⟩,λ_ _ _=>⟨rfl,rfl⟩,λj h h'=>by omega,rfl⟩
 |m+1,i,x,y,bs,r,hm,hi,hz,h=>by
  have hi5:i<5:=by omega
  have zt: ∀k (hk:k<4),TameC (RowT.zero.left[0])[k]:=λk hk=>by
   match k,hk with
   |0,_|1,_|2,_|3,_=>exact uS
  obtain⟨n,r',h1,h2⟩:=bp h;obtain⟨k1,k2,rfl⟩:=iE h1;simp only[dif_pos hi5]at h2;split at h2
  · rename_i hn
    obtain⟨z,r2,h3,h4⟩:=bp h2;obtain⟨⟨i1,i2,i3⟩,i4,_,i5,rfl⟩:=AG hi5 4 0 _ z r' r2 rfl (by omega) h3;obtain⟨⟨j1,j2⟩,j3,j4,rfl⟩:=sU m (i+1) z y r2 r (by omega) (by omega) (λj h hj=>by rw[i4 j h (by omega)];exact hz j h (by omega)) h4;have e1:y.heir[i]=n:=by rw[(j3 i hi5 (by omega)).1,show z.heir[i]=(x.heir.set i n)[i]from by rw[i2]];simp
    have e2:y.left[i]=z.left[i]:=(j3 i hi5 (by omega)).2;refine⟨⟨by rw[j1,i1],by rw[j2,i3]⟩,λj h hj=>⟨?_,?_⟩,λj h hj=>?_,?_⟩
    · rw[(j3 j h (by omega)).1,show z.heir[j]=(x.heir.set i n)[j]from by rw[i2]];simp[Vector.getElem_set,show i≠j by omega]
    · rw[(j3 j h (by omega)).2,i4 j h (by omega)]
    · by_cases q:j=i
      · subst q
        rw[e1,e2];exact⟨⟨k1,k2⟩,λk hk=>i5 k hk (by omega),λe=>by omega⟩
      · exact j4 j h (by omega)
    · simp only[fg,dif_pos hi5,e1,if_pos hn,e2,aI,ba]
  · rename_i hn
    obtain⟨⟨j1,j2⟩,j3,j4,rfl⟩:=sU m (i+1) {x with heir:=x.heir.set i n} y r' r (by omega) (by omega) (λj h hj=>hz j h (by omega)) h2;have e1:y.heir[i]=n:=by rw[(j3 i hi5 (by omega)).1];simp
    have e2:y.left[i]=x.left[i]:=(j3 i hi5 (by omega)).2;refine⟨⟨j1,j2⟩,λj h hj=>⟨?_,?_⟩,λj h hj=>?_,?_⟩
    · rw[(j3 j h (by omega)).1];simp[Vector.getElem_set,show i≠j by omega]
    · rw[(j3 j h (by omega)).2]
    · by_cases q:j=i
      · subst q
        rw[e1,e2,hz j hi5 (aH _)];exact⟨⟨k1,k2⟩,zt,λ_=>rfl⟩
      · exact j4 j h (by omega)
    · simp only[fg,dif_pos hi5,e1,if_neg hn,bG,aL,aI]
theorem tU{x:RowT}{bs r:List UInt8}(h:wx bs=some (x,r)):TameR x∧bs=gf x++r:=by
 obtain⟨n,r1,h1,h'⟩:=bp h;clear h;obtain⟨k1,k2,rfl⟩:=iE h1;replace h':pb (nV 4 0 {RowT.zero with version:=n}) (jP 5 0) r1=some (x,r):=h';obtain⟨y,r2,h2,h3⟩:=bp h';clear h';obtain⟨⟨i1,i2,i3⟩,_,i4,rfl⟩:=yS 4 0 _ y r1 r2 rfl (by omega) h2
 obtain⟨⟨j1,j2⟩,_,j3,rfl⟩:=sU 5 0 y x r2 r rfl (by omega) (λj h _=>by
  rw[show y.left[j]=RowT.zero.left[j]from by rw[i3]]
  match j,h with
  |0,_|1,_|2,_|3,_|4,_=>rfl) h3
 have ev:x.version=n:=by rw[j1,i1]
 refine⟨⟨by rw[ev];exact⟨k1,k2⟩,λk hk=>by rw[show x.cells[k]=y.cells[k]from by rw[j2]];exact i4 k hk (by omega),λi hi=>(j3 i hi (by omega)).1,λi k hi hk=>(j3 i hi (by omega)).2.1 k hk,λi hi=>(j3 i hi (by omega)).2.2⟩,?_⟩;rw[gf,ev,j2,ba];simp only[aI]
end Codec
end

section
namespace Api
open Go Leg Codec
def F0(n:Int):Bool:=decide (0≤n∧n≤1099511627776)
def s7:List Int→Int→Int×Int
 | [],s=>(s,0)
 |n::l,s=>if F0 n then(if n>1099511627776-s then(0,6)else s7 l (s+n))else(0,5)
def Ny(c:CellT):Bool:=F0 c.inn&&F0 c.out&&decide ((s7 c.given.toList 0).2=0)
def BX(v:Vector CellT 4):Bool:=decide (∀k (h:k<4),Ny v[k]=true)
def El(h:Int)(l:Vector CellT 4):Bool:=decide (0≤h)&&BX l&&decide (h=0→bS l.toList=bS RowT.zero.left[0].toList)
def fF(x:RowT):Bool:=decide (0≤x.version)&&BX x.cells&&decide (∀j (h:j<5),El x.heir[j] x.left[j]=true)
def cO(w:Int):Bool:=decide (0≤w∧w<5)
def Jz(m w:Int):Bool:=decide ((m.fdiv (2^min w.toNat IntKind.i64.bits))%2=1)
def jr(v:ViewT)(w:Int):Bool:=cO w&&Jz v.members w
def Oi(v:ViewT)(h:Int)(i:Nat):Bool:=decide (h=0)||(jr v (h-1)&& !jr v (i:Int))
def kJ(v:ViewT):Bool:=decide (1≤v.epoch∧1≤v.members∧v.members<32)&& @decide (∀(j:Nat) (h:j<5),Oi v (v.heirs[j]'h) j=true) (Nat.decidableBallLT 5 λj h=>Oi v (v.heirs[j]'h) j=true)
def firstV:ViewT:=⟨1,7, #v[0,0,0,0,0]⟩
def jQ(v:ViewT)(w:Int):Option Int:=if h:0≤w∧w<5 then(if v.heirs[w.toNat]<1 then none else some (v.heirs[w.toNat]-1))else none
def vj(c:ChangeT)(i:Nat)(h:Int):Int:=if(i:Int)=c.who∨h=c.who+1 then c.heir+1 else h
def Rng(v:ViewT):Prop:=∀(i:Nat) (h:i<5),0≤v.heirs[i]∧v.heirs[i]≤5
def sS(v:ViewT)(c:ChangeT):Vector Int 5:=v.heirs.mapIdx (vj c)
def dW(v:ViewT)(c:ChangeT):ViewT×Int:=
 if !cO c.who|| !cO c.heir then(ViewT.zero,5)
 else if c.kind=0 then
  if(jQ v c.who).isSome||jr v c.who then(ViewT.zero,5)
  else(⟨IntKind.i64.wrap (v.epoch+1),jp .i64 v.members (2^c.who.toNat),v.heirs⟩,0)
 else if c.kind=1 then
  if !jr v c.who|| !jr v c.heir||decide (c.heir=c.who)then(ViewT.zero,5)
  else(⟨IntKind.i64.wrap (v.epoch+1),np .i64 v.members (2^c.who.toNat),sS v c⟩,0)
 else(ViewT.zero,5)
theorem y1{l:List Int}{k:Nat}{s:Int}(h:k<l.length):s7 (l.drop k) s=if F0 (l.getD k 0)then(if l.getD k 0>1099511627776-s then(0,6)else s7 (l.drop (k+1)) (s+l.getD k 0))else(0,5):=by
 rw[dK h,s7];simp[List.getD_eq_getElem?_getD,h]
theorem Nd(x:Int):uF .i64 x 1=x%2:=mask (k:=1) (by decide) x
theorem G5{w:Int}(h:0≤w∧w<5):IntKind.i64.wrap (1*2^min w.toNat IntKind.i64.bits)=2^w.toNat:=by
 obtain⟨m,rfl⟩:=Int.eq_ofNat_of_zero_le h.1;have:m<5:=by omega
 match m,this with
 |0,_|1,_|2,_|3,_|4,_=>rfl
end Api
namespace Leg
section
open Go
variable {P:Program} {n:Nat} {D:List Deferred} {L:List (Nat×Value)} {S:World→Prop} {o:Oper}
theorem ff{l:List Int}{n:Nat}(h:(Api.ints l).length=n):l.length=n:=by rwa [Api.ints_length]at h
theorem PV.neqAgg{t t':TypeId}{x y:Operand}{a b:List Int}{m c:Nat}(hg:P.eqGuardType P.depth t=false)(hk:P.keyTypeAt m t=true)(hm:Nat.ble m 10000=true)(hF:rc P m t=some c)(ha:a.length=c)(hb:b.length=c)
 (hf:(Api.agI a).formed P t=true∧(Api.agI b).formed P t=true) (wa:WF a) (wb:WF b)
 (ho:o.op= .binOp .neq t x y t') (hx:cL L x=some (Api.agI a)) (hy:cL L y=some (Api.agI b)):PV P n D L S o (.bool (decide (a≠b))):=
 gl ho hx hy λw=>by
  have hm':m≤10000:=fJ hm;obtain⟨r,hr,hi⟩:=run_equalIn_deep (10000-m) m t hk w m m (Api.agI a) (Api.agI b) (pa a) (pa b) hf.1 hf.2 (by simpa [Api.agI,Value.cells]using pJ m t c hF a ha wa) (by simpa [Api.agI,Value.cells]using pJ m t c hF b hb wb);rw[show 10000-m+m=10000 by omega]at hr
  have e:r=decide (a=b):=by
   rw[O5,hi,decide_eq_true_iff];constructor
   · intro h
     have hj:Function.Injective (Lit.int IntKind.i64):=λu v h=>by injection h
     exact(List.map_inj_right λu v h=>hj h).1 h
   · rintro rfl;rfl
  subst e;simp only[Api.agI]at hr ⊢;rw[Sem.run_bind,run_eqGuard_agg w .neq t x y _ _ hg,Result.andThen_ok,run_neq_struct,hr];simp
abbrev No:= @PV.neqAgg
theorem TE.retCT{w0:World}{F:Hl}{H H':List HP}{fn:Func}{post:Ending→List HP→Prop}{t t' ty e m b:Nat}{cs:List Value}{z:Nat×Nat}{dt:TypeDesc}{v':Value}(hr:fn.results=#[.cell t ty, .tmp t'])(he:lk L t=some (.pointer (some ⟨b,0,none⟩)))(e':lk L t'=some v')
 (hu:P.underlying ty=some dt) (hp:eB dt=false) (hm:(P.info? ty).map (·.size)=some m) (hR:Rd (Sat H F) b (.cells cs.toArray e z)) (hl:cs.length=m) (hk: ∀h,bH H h→bH H' h)
 (h:post (.returned (.tuple #[.agg cs.toArray,v'])) H'):TE w0 F n (bodyPost P fn (kc post w0 F)) .ret [] L H:=λa w f s q=>by
 have h1:a.tmps.getD t undef= .pointer (some ⟨b,0,none⟩):=f.eval (x:= .tmp t) he;have h2:a.tmps.getD t' undef=v':=f.eval (x:= .tmp t') e'
 have h3:(results fn a.tmps).run P w= .ok (.tuple #[.agg cs.toArray,v']) w:=by
  have h1':a.tmps[t]?.getD undef= .pointer (some ⟨b,0,none⟩):=by simpa using h1
  have h2':a.tmps[t']?.getD undef=v':=by simpa using h2
  simp[results,hr,h1',h2',asAddr,run_loadVar_row w b e ty cs.toArray z dt (hR w q) hu (by cases dt<;>simp[eB]at hp ⊢) (by simp[hm,hl])]
 exact bodyPost_ret h3 f.2.1 ⟨s,H',q.mono hk,h⟩
abbrev my:= @TE.retCT
theorem PV.andNot{t t':TypeId}{x y:Operand}{k:IntKind}{a b r:Int}(ho:o.op= .binOp .andNot t x y t')(hx:cL L x=some (.int k a))(hy:cL L y=some (.int k b))(hr:np k a b=r):PV P n D L S o (.int k r):=
 gl ho hx hy (λw=>by rw[fY];subst hr;simp[binOp,Op.intBits,np])
end
open Go
variable {P:Program} {w0:World} {F:Hl} {n:Nat} {ops:Array Oper} {Q:QQ} {D:List Deferred} {L:List (Nat×Value)} {H:List HP} {d:Nat} {o:Oper} {l:List Oper}
theorem RT{fn:Func}{post:Ending→List HP→Prop}{t t' ty e m b:Nat}{cs:List Value}{dt:TypeDesc}{v':Value}(k:Nat)(is:List Nat)(hu:P.underlying ty=some dt)(hm:(P.info? ty).map (·.size)=some m)(hl:cs.length=m)(h:post (.returned (.tuple #[.agg cs.toArray,v'])) ((DD H is).take is.length))(hr:fn.results=#[.cell t ty, .tmp t']:=by exact rfl)(he:lk L t=some (.pointer (some ⟨b,0,none⟩)):=by exact rfl)(e':lk L t'=some v':=by exact rfl)(hp:eB dt=false:=by exact rfl)(hk:Nat.blt k H.length=true:=by exact rfl)(hH:H.getD k (λ_=>True)=ak b cs e:=by exact rfl)(hs:MC H.length is=true:=by exact rfl):TE w0 F n (bodyPost P fn (kc post w0 F)) .ret [] L H:=my hr he e' hu hp hm (fj k hk hH) hl (λ_ s=>an is hs s) h
end Leg
end

section
namespace Go.Proofs.YtfocodjhmkokpaaGreatDoor
open Go Leg Codec Api
theorem mixed:Tryz.prog.follows .mixedOrders=true:=by kernel_rfl
abbrev iS:List PanicEntry:=[{v:= .iface 221 (.agg #[]),recovered:=false}]
theorem IV(rb b off cap:Nat)(bs:List UInt8)(cs:List Value)(T:TypeId)(z:Nat×Nat)(hcap:bs.length≤cap)(hm:cap≤9223372036854775807)(hb: ∀j,j<bs.length→cs[off+j]?=some (.int .u8 ((bs.getD j 0).toNat:Nat))):
 DT 143 #[(.pointer (some ⟨rb,0,none⟩))] (λF=>F b=some (.cells cs.toArray T z)) [ak rb [(.slice (some ⟨b,off,none⟩) (bs.length) (cap))] 219] (wI (λx H=>∃n r v',x= .int .i64 ((n:Nat):Int)∧H=[ak rb [v'] 219]∧kR 0 0 bs=some (n,r)∧Tail (.slice (some ⟨b,off,none⟩) bs.length cap) bs v' r) (λc H=>c=iS∧H=[ak rb [(.slice (some ⟨b,off,none⟩) bs.length cap)] 219]∧kR 0 0 bs=none)):=by
 refine BD 48 Tryz.func143 rfl rfl rfl λw0 F hF=>sr λ_ J1=>PS ?_
 refine nx J1 (sr λ_ J2=>PS ?_);refine nx J2 (aa λ_ J3=>sr λ_ J4=>P2 ?_);refine FA 0 Cy ld ?_;refine LA 0 gA ?_;refine tp (n4 rfl gA rfl) ?_;refine PS ?_;refine nx J4 (av ?_)
 refine bz (α:=(Nat)×(Nat)) (λ⟨k,a⟩=>k≤bs.length∧k≤9∧a<2^ (7*k)∧kR 0 0 bs=kR k a (bs.drop k)) (λ⟨k,a⟩=>[(0,(.pointer (some ⟨rb,0,none⟩))),(3,(.int .i64 ((a:Nat)))),(9,(.slice (some ⟨b,off,none⟩) (bs.length) (cap))),(10,(.int .i64 (((bs.length:Nat):Int)))),(11,(.int .i64 ((k:Nat))))]) (λ⟨k,a⟩=>[ak rb [(.slice (some ⟨b,off,none⟩) (bs.length) (cap))] 219]) (λ⟨k,a⟩=>bs.length-k) (0,0)
  ⟨by omega,by omega,by omega,rfl⟩ SB
  (λ_ s=>s) (λ⟨k,a⟩ hinv=>?_)
 obtain⟨hk,hk9,ha,hp⟩:=hinv;have hc:(bs.getD k 0).toNat<256:=(bs.getD k 0).toNat_lt;refine sr λ_ J5=>PS ?_
 refine aq ?_ ?_<;>intro h12;refine nx J5 (aa λ_ J6=>CY (qx J6 (aa λ_ J7=>av (sr λ_ J8=>PS ?_))));refine tp (j6 (r:=off+k) rfl gA l5 rfl rfl (by first|omega|decide) (by first|omega|decide) (by omega)) ?_;refine tp (ic (v:=(.int .u8 (((bs.getD k 0).toNat:Nat)))) rfl Y5 rfl rfl (Rd.ro hF) (hb k (by omega))) ?_;refine P2 ?_;refine nx J8 (aa λ_ J9=>sr λ_ J10=>P2 ?_);refine aq ?_ ?_<;>intro h17;refine nx J10 (CY (aX (aC (TE.miss (by decide) (aC (aC (bq (ae J3 (af (BV #[] ?_))))))))));refine tp (qi rfl JE rfl rfl) ?_;refine JG (ab rfl) rfl rfl (aU ?_);exact⟨rfl,rfl,by rw[hp,pd bs k (by omega)];simp only[kR];rw[if_pos (by omega)]⟩;refine nx J10 (CN (qx J9 (sr λ_ J11=>P2 ?_)));refine tp (wK (r:=(((bs.getD k 0).toNat%128:Nat):Int)) rfl rfl rfl (OW _ hc)) ?_;refine tp (eh rfl Y5 Y3 rfl (bY (by omega) (by omega))) ?_;refine PS ?_;refine tp (Np rfl rfl rfl (bY (by omega) (by omega))) ?_;refine tp (zP (r:=(((bs.getD k 0).toNat%128*2^ (7*k):Nat):Int)) rfl rfl rfl (by omega) (Rm _ k (by omega) (by omega))) ?_;refine tp (L2 (r:=((a+(bs.getD k 0).toNat%128*2^ (7*k):Nat):Int)) rfl rfl rfl (Og a _ k ha (by omega) (by omega))) ?_;refine PS ?_;refine nx J11 (aa λ_ J12=>sr λ_ J13=>P2 ?_);refine aq ?_ ?_<;>intro h27;refine nx J13 (CY (aX (aC (bq (ae J7 (af (AD ?_)))))));refine PS ?_;refine ax ?_
 exact aM ((k+1,a+(bs.getD k 0).toNat%128*2^ (7*k)):(Nat)×(Nat)) ⟨by omega,by omega,Qu a _ k ha (by omega),by rw[hp,pd bs k (by omega)];simp only[kR];rw[if_neg (by omega),if_pos (by omega)]⟩ (by show _-_<_-_;omega)
  SB
  (λ_ s=>s)
 refine nx J13 (CN (qx J12 (aa λ_ J14=>sr λ_ J15=>P2 ?_)));refine aq ?_ ?_<;>intro h29;refine P3 ?_;refine aq ?_ ?_<;>intro h32;refine PS ?_;refine nx J15 (CY (aX (aC (TE.miss (by decide) (aC (aC (bq (ae J3 (af (BV #[] ?_))))))))));refine tp (qi rfl JE rfl rfl) ?_;refine JG (ab rfl) rfl rfl (aU ?_);exact⟨rfl,rfl,by rw[hp,pd bs k (by omega)];simp only[kR];rw[if_neg (by omega),if_neg (by omega),if_pos (by omega)]⟩;refine PS ?_;refine nx J15 (CN (qx J14 (sr λ_ J16=>P3 ?_)));refine FA 0 Cy ld ?_;refine LA 0 gA ?_;refine PS ?_;refine AD ?_;refine tp (PV.sliceLo (k:=k+1) rfl gA l5 rfl rfl (by omega) (by omega) rfl) ?_;refine PS ?_;refine FA 0 Cy ld ?_;refine S0 0 ld ?_;refine nx J16 (sr λ_ J17=>P2 ?_);refine nx J17 (aj (aK (ag (ag (aK (ag (aw rfl rfl ?_)))))));exact⟨_,_,_,rfl,rfl,by rw[hp,pd bs k (by omega)];simp only[kR];rw[if_neg (by omega),if_neg (by omega),if_neg (by omega)],Tail.cut _ (by omega)⟩;refine PS ?_;refine UF ?_;refine UF ?_;refine PS ?_;refine nx J15 (CN (qx J14 (sr λ_ J18=>P3 ?_)));refine FA 0 Cy ld ?_;refine LA 0 gA ?_;refine PS ?_;refine AD ?_;refine tp (PV.sliceLo (k:=k+1) rfl gA l5 rfl rfl (by omega) (by omega) rfl) ?_;refine PS ?_;refine FA 0 Cy ld ?_;refine S0 0 ld ?_;refine nx J18 (sr λ_ J19=>P2 ?_);refine nx J19 (aj (aK (ag (ag (aK (ag (aw rfl rfl ?_)))))))
 exact⟨_,_,_,rfl,rfl,by rw[hp,pd bs k (by omega)];simp only[kR];rw[if_neg (by omega),if_neg (by omega),if_neg (by omega)],Tail.cut _ (by omega)⟩;refine nx J5 (aa λ_ J20=>CN (aX (aC (aC (bq (ae J3 (af (BV #[] ?_))))))));refine tp (qi rfl JE rfl rfl) ?_;refine JG (ab rfl) rfl rfl (aU ?_);exact⟨rfl,rfl,by rw[hp,fl (by omega)];rfl⟩
theorem ME(rb:Nat):
 DT 143 #[(.pointer (some ⟨rb,0,none⟩))] T0 [ak rb [(.slice none 0 0)] 219] (wI (λx H=>∃n r v',x= .int .i64 ((n:Nat):Int)∧H=[ak rb [v'] 219]∧kR 0 0 []=some (n,r)∧Tail (.slice none 0 0) [] v' r) (λc H=>c=iS∧H=[ak rb [(.slice none 0 0)] 219]∧kR 0 0 []=none)):=by
 refine BD 48 Tryz.func143 rfl rfl rfl λw0 F hF=>sr λ_ J1=>PS ?_
 refine nx J1 (sr λ_ J2=>PS ?_);refine nx J2 (aa λ_ J3=>sr λ_ J4=>P2 ?_);refine FA 0 Cy ld ?_;refine LA 0 gA ?_;refine tp (n4 rfl gA rfl) ?_;refine PS ?_;refine nx J4 (av ?_)
 refine bz (α:=Unit) (λ_u=>True) (λ_u=>[(0,(.pointer (some ⟨rb,0,none⟩))),(3,(.int .i64 0)),(9,(.slice none 0 0)),(10,(.int .i64 0)),(11,(.int .i64 0))]) (λ_u=>[ak rb [(.slice none 0 0)] 219]) (λ_u=>0) ()
  trivial SB
  (λ_ s=>s) (λ_u hinv=>?_)
 obtain _:=hinv;refine sr λ_ J5=>PS ?_
 refine nx J5 (aa λ_ J6=>CN (aX (aC (aC (bq (ae J3 (af (BV #[] ?_))))))));refine tp (qi rfl JE rfl rfl) ?_;exact JG (ab rfl) rfl rfl (aU ⟨rfl,rfl,rfl⟩)
theorem jK(rb:Nat)(v:Value)(bs:List UInt8):DT 143 #[(.pointer (some ⟨rb,0,none⟩))] (IsB v bs) [ak rb [v] 219] (oK 219 iS (λn=> .int .i64 n) oa v bs rb):=by
 have fin: ∀e H,(wI (λx H=>∃n r v',x= .int .i64 ((n:Nat):Int)∧H=[ak rb [v'] 219]∧kR 0 0 bs=some (n,r)∧Tail v bs v' r) (λc H=>c=iS∧H=[ak rb [v] 219]∧kR 0 0 bs=none)) e H→oK 219 iS (λn=> .int .i64 n) oa v bs rb e H:=by
  intro e H h;cases e with
  |returned x=>obtain⟨n,r,v',h1,h2,h3,h4⟩:=h;exact⟨_,r,v',h1,h2,IW h3,h4⟩
  |panicked c=>obtain⟨h1,h2,h3⟩:=h;exact⟨_,h1,h2,IZ h3⟩
  |outgrown=>exact h
 refine Leg.Does.of λF hF=>?_
 rcases id hF with⟨rfl,rfl⟩| ⟨b,off,cap,cs,T,z,rfl,h1,h2,h3,h4⟩
 · exact⟨_,trivial,(ME rb).mono fin⟩
 · exact⟨_,h3,(IV rb b off cap bs cs T z h1 h2 h4).mono fin⟩
theorem c8(rb:Nat)(v:Value)(bs:List UInt8)(lim:Int):
 DT 141 #[(.pointer (some ⟨rb,0,none⟩)),(.int .i64 (lim))] (IsB v bs) [ak rb [v] 219] (oK 219 iS (λn=> .int .i64 n) (fE lim) v bs rb):=by
 refine BD 14 Tryz.func141 rfl rfl rfl λw0 F hF=>sr λ_ J1=>PS ?_
 refine nx J1 (sr λ_ J2=>PS ?_);refine CP qW (jK rb v bs) ID (λ_ d _=>(hF).more d) (λcP HP hP=>?_) (λvR HR hR=>?_);obtain⟨vP,rfl,rfl,hpP⟩:=hP;refine aA (WK [0] (aU ?_));exact⟨_,rfl,rfl,by simp[fE,ca hpP]⟩;obtain⟨a1,r1,v1,rfl,rfl,hp1,ht1⟩:=hR;have hf1:=ht1 _ hF;refine PS ?_;refine nx J2 (aa λ_ J3=>sr λ_ J4=>P3 ?_);refine aq ?_ ?_<;>intro h10;refine nx J4 (CY (af (BV #[] ?_)));refine tp (qi rfl JE rfl rfl) ?_;refine JG (ab rfl) rfl rfl (aA (WK [0] (aU ?_)));exact⟨_,rfl,rfl,by simp[fE,aE hp1,h10,pf]⟩;refine nx J4 (CN (qx J3 (sr λ_ J5=>P2 ?_)));refine nx J5 (aj (WK [0] (aw rfl rfl ?_)));exact⟨_,_,_,rfl,rfl,by rw[fE,aE hp1,if_neg h10];rfl,ht1⟩
theorem xW(rb:Nat)(v:Value)(bs:List UInt8):
 DT 170 #[(.pointer (some ⟨rb,0,none⟩))] (IsB v bs) [ak rb [v] 219] (oK 219 iS CellT.val mY v bs rb):=by
 refine BD 21 Tryz.func170 rfl rfl rfl λw0 F hF=>sr λ_ J1=>XA L8 λb2=>?_
 refine nx J1 (sr λ_ J2=>XA L8 λb3=>?_);refine nx J2 (sr λ_ J3=>PS ?_);refine CP jL (c8 rb v bs (1099511627777)) (SM [2]) (λ_ d _=>(hF).more d) (λcP HP hP=>?_) (λvR HR hR=>?_);obtain⟨vP,rfl,rfl,hpP⟩:=hP;refine aA (WK [0] (aU ?_));exact⟨_,rfl,rfl,by simp[mY,pr,ca hpP]⟩;obtain⟨a1,r1,v1,rfl,rfl,hp1,ht1⟩:=hR;have hf1:=ht1 _ hF;refine FA 0 nw aR ?_;refine S0 1 aR ?_;refine nx J3 (sr λ_ J4=>PS ?_);refine CP jL (c8 rb v1 r1 (1099511627777)) ID (λ_ d _=>(hf1).more d) (λcP HP hP=>?_) (λvR HR hR=>?_);obtain⟨vP,rfl,rfl,hpP⟩:=hP;refine aA (WK [0] (aU ?_));exact⟨_,rfl,rfl,by simp[mY,pr,aE hp1,ca hpP]⟩;obtain⟨a2,r2,v2,rfl,rfl,hp2,ht2⟩:=hR;have hf2:=ht2 _ hf1;refine FA 1 nw aR ?_;refine S0 1 aR ?_;refine nx J4 (aa λ_ J5=>sr λ_ J6=>PS ?_);refine nx J6 (av (ou 5 (sr λ_ J7=>PS ?_)));refine nx J7 (aa λ_ J8=>CY (qx J8 (aa λ_ J9=>av (sr λ_ J10=>P2 ?_))));refine nx J10 (af (P2 ?_));refine CP jL (c8 rb v2 r2 (1099511627777)) ID (λ_ d _=>(hf2).more d) (λcP HP hP=>?_) (λvR HR hR=>?_);obtain⟨vP,rfl,rfl,hpP⟩:=hP;refine aQ (aA (aA (aQ (aA (WK [0] (aU ?_))))));exact⟨_,rfl,rfl,by simp[mY,pr,aE hp1,aE hp2,ca hpP]⟩;obtain⟨a3,r3,v3,rfl,rfl,hp3,ht3⟩:=hR;have hf3:=ht3 _ hf2;refine FA 2 nw e8 ?_;refine IX 2 ke aR ?_;refine S0 1 aR ?_;refine ax (ai (ae J9 (af (tp (cN (r:=1) rfl rfl rfl (by decide)) ?_))));refine PS ?_
 refine ax (eD (sr λ_ J11=>PS ?_));refine nx J11 (aa λ_ J12=>CY (qx J12 (aa λ_ J13=>av (sr λ_ J14=>P2 ?_))));refine nx J14 (af (P2 ?_));refine CP jL (c8 rb v3 r3 (1099511627777)) ID (λ_ d _=>(hf3).more d) (λcP HP hP=>?_) (λvR HR hR=>?_);obtain⟨vP,rfl,rfl,hpP⟩:=hP;refine aQ (aA (aA (aQ (aA (WK [0] (aU ?_))))));exact⟨_,rfl,rfl,by simp[mY,pr,aE hp1,aE hp2,aE hp3,ca hpP]⟩;obtain⟨a4,r4,v4,rfl,rfl,hp4,ht4⟩:=hR;have hf4:=ht4 _ hf3;refine FA 2 nw e8 ?_;refine IX 3 ke aR ?_;refine S0 1 aR ?_;refine ax (ai (ae J13 (af (tp (cN (r:=2) rfl rfl rfl (by decide)) ?_))));refine PS ?_;refine ax (eD (sr λ_ J15=>PS ?_));refine nx J15 (aa λ_ J16=>CY (qx J16 (aa λ_ J17=>av (sr λ_ J18=>P2 ?_))));refine nx J18 (af (P2 ?_));refine CP jL (c8 rb v4 r4 (1099511627777)) ID (λ_ d _=>(hf4).more d) (λcP HP hP=>?_) (λvR HR hR=>?_);obtain⟨vP,rfl,rfl,hpP⟩:=hP;refine aQ (aA (aA (aQ (aA (WK [0] (aU ?_))))));exact⟨_,rfl,rfl,by simp[mY,pr,aE hp1,aE hp2,aE hp3,aE hp4,ca hpP]⟩;obtain⟨a5,r5,v5,rfl,rfl,hp5,ht5⟩:=hR;have hf5:=ht5 _ hf4;refine FA 2 nw e8 ?_;refine IX 4 ke aR ?_;refine S0 1 aR ?_;refine ax (ai (ae J17 (af (tp (cN (r:=3) rfl rfl rfl (by decide)) ?_))));refine PS ?_;refine ax (eD (sr λ_ J19=>PS ?_));refine nx J19 (aa λ_ J20=>CY (qx J20 (aa λ_ J21=>av (sr λ_ J22=>P2 ?_))));refine nx J22 (af (P2 ?_))
 refine CP jL (c8 rb v5 r5 (1099511627777)) ID (λ_ d _=>(hf5).more d) (λcP HP hP=>?_) (λvR HR hR=>?_);obtain⟨vP,rfl,rfl,hpP⟩:=hP;refine aQ (aA (aA (aQ (aA (WK [0] (aU ?_))))));exact⟨_,rfl,rfl,by simp[mY,pr,aE hp1,aE hp2,aE hp3,aE hp4,aE hp5,ca hpP]⟩;obtain⟨a6,r6,v6,rfl,rfl,hp6,ht6⟩:=hR;have hf6:=ht6 _ hf5;refine FA 2 nw e8 ?_;refine IX 5 ke aR ?_;refine S0 1 aR ?_;refine ax (ai (ae J21 (af (tp (cN (r:=4) rfl rfl rfl (by decide)) ?_))));refine PS ?_;refine ax (eD (sr λ_ J23=>PS ?_));refine nx J23 (aa λ_ J24=>CY (qx J24 (aa λ_ J25=>av (sr λ_ J26=>P2 ?_))));refine nx J26 (af (P2 ?_));refine CP jL (c8 rb v6 r6 (1099511627777)) ID (λ_ d _=>(hf6).more d) (λcP HP hP=>?_) (λvR HR hR=>?_);obtain⟨vP,rfl,rfl,hpP⟩:=hP;refine aQ (aA (aA (aQ (aA (WK [0] (aU ?_))))));exact⟨_,rfl,rfl,by simp[mY,pr,aE hp1,aE hp2,aE hp3,aE hp4,aE hp5,aE hp6,ca hpP]⟩;obtain⟨a7,r7,v7,rfl,rfl,hp7,ht7⟩:=hR;have hf7:=ht7 _ hf6;refine FA 2 nw e8 ?_;refine IX 6 ke aR ?_;refine S0 1 aR ?_;refine ax (ai (ae J25 (af (tp (cN (r:=5) rfl rfl rfl (by decide)) ?_))));refine PS ?_;refine ax (eD (sr λ_ J27=>PS ?_));refine nx J27 (aa λ_ J28=>CN (aX (aC (aC (bq (ae J5 (sr λ_ J29=>tp (aP (vs:=[(.int .i64 (a1)),(.int .i64 (a2)),(.int .i64 (a3)),(.int .i64 (a4)),(.int .i64 (a5)),(.int .i64 (a6)),(.int .i64 (a7))]) rfl nw rfl fN rfl (RO 1) rfl rfl) ?_)))))))
 refine bT (vs:=[(.int .i64 (a1)),(.int .i64 (a2)),(.int .i64 (a3)),(.int .i64 (a4)),(.int .i64 (a5)),(.int .i64 (a6)),(.int .i64 (a7))]) (i:=2) (ab rfl) rfl rfl rfl rfl rfl fN (by simp[Value.oneCell']) rfl rfl (MV rfl) rfl rfl (nx J29 (aj (RC 2 [0] nw fN rfl ?_)));exact⟨⟨a1,a2, #v[a3,a4,a5,a6,a7]⟩,_,_,rfl,rfl,by simp[mY,pr,aE hp1,aE hp2,aE hp3,aE hp4,aE hp5,aE hp6,aE hp7],(ht1.trans (ht2.trans (ht3.trans (ht4.trans (ht5.trans (ht6.trans ht7))))))⟩
theorem sK(rb:Nat)(v:Value)(bs:List UInt8):
 DT 146 #[(.pointer (some ⟨rb,0,none⟩))] (IsB v bs) [ak rb [v] 219] (oK 219 iS ViewT.val nB v bs rb):=by
 refine BD 21 Tryz.func146 rfl rfl rfl λw0 F hF=>sr λ_ J1=>XA tj λb2=>?_
 refine nx J1 (sr λ_ J2=>XA tj λb3=>?_);refine nx J2 (sr λ_ J3=>PS ?_);refine CP qW (jK rb v bs) (SM [2]) (λ_ d _=>(hF).more d) (λcP HP hP=>?_) (λvR HR hR=>?_);obtain⟨vP,rfl,rfl,hpP⟩:=hP;refine aA (WK [0] (aU ?_));exact⟨_,rfl,rfl,by simp[nB,pr,ca hpP]⟩;obtain⟨a1,r1,v1,rfl,rfl,hp1,ht1⟩:=hR;have hf1:=ht1 _ hF;refine FA 0 eO aR ?_;refine S0 1 aR ?_;refine nx J3 (sr λ_ J4=>PS ?_);refine CP jL (c8 rb v1 r1 (32)) ID (λ_ d _=>(hf1).more d) (λcP HP hP=>?_) (λvR HR hR=>?_);obtain⟨vP,rfl,rfl,hpP⟩:=hP;refine aA (WK [0] (aU ?_));exact⟨_,rfl,rfl,by simp[nB,pr,aE hp1,ca hpP]⟩;obtain⟨a2,r2,v2,rfl,rfl,hp2,ht2⟩:=hR;have hf2:=ht2 _ hf1;refine FA 1 eO aR ?_;refine S0 1 aR ?_;refine nx J4 (aa λ_ J5=>sr λ_ J6=>PS ?_);refine nx J6 (av (ou 5 (sr λ_ J7=>PS ?_)));refine nx J7 (aa λ_ J8=>CY (qx J8 (aa λ_ J9=>av (sr λ_ J10=>P2 ?_))));refine nx J10 (af (P2 ?_));refine CP jL (c8 rb v2 r2 (6)) ID (λ_ d _=>(hf2).more d) (λcP HP hP=>?_) (λvR HR hR=>?_);obtain⟨vP,rfl,rfl,hpP⟩:=hP;refine aQ (aA (aA (aQ (aA (WK [0] (aU ?_))))));exact⟨_,rfl,rfl,by simp[nB,pr,aE hp1,aE hp2,ca hpP]⟩;obtain⟨a3,r3,v3,rfl,rfl,hp3,ht3⟩:=hR;have hf3:=ht3 _ hf2;refine FA 2 eO e8 ?_;refine IX 2 ke aR ?_;refine S0 1 aR ?_;refine ax (ai (ae J9 (af (tp (cN (r:=1) rfl rfl rfl (by decide)) ?_))));refine PS ?_;refine ax (eD (sr λ_ J11=>PS ?_))
 refine nx J11 (aa λ_ J12=>CY (qx J12 (aa λ_ J13=>av (sr λ_ J14=>P2 ?_))));refine nx J14 (af (P2 ?_));refine CP jL (c8 rb v3 r3 (6)) ID (λ_ d _=>(hf3).more d) (λcP HP hP=>?_) (λvR HR hR=>?_);obtain⟨vP,rfl,rfl,hpP⟩:=hP;refine aQ (aA (aA (aQ (aA (WK [0] (aU ?_))))));exact⟨_,rfl,rfl,by simp[nB,pr,aE hp1,aE hp2,aE hp3,ca hpP]⟩;obtain⟨a4,r4,v4,rfl,rfl,hp4,ht4⟩:=hR;have hf4:=ht4 _ hf3;refine FA 2 eO e8 ?_;refine IX 3 ke aR ?_;refine S0 1 aR ?_;refine ax (ai (ae J13 (af (tp (cN (r:=2) rfl rfl rfl (by decide)) ?_))));refine PS ?_;refine ax (eD (sr λ_ J15=>PS ?_));refine nx J15 (aa λ_ J16=>CY (qx J16 (aa λ_ J17=>av (sr λ_ J18=>P2 ?_))));refine nx J18 (af (P2 ?_));refine CP jL (c8 rb v4 r4 (6)) ID (λ_ d _=>(hf4).more d) (λcP HP hP=>?_) (λvR HR hR=>?_);obtain⟨vP,rfl,rfl,hpP⟩:=hP;refine aQ (aA (aA (aQ (aA (WK [0] (aU ?_))))));exact⟨_,rfl,rfl,by simp[nB,pr,aE hp1,aE hp2,aE hp3,aE hp4,ca hpP]⟩;obtain⟨a5,r5,v5,rfl,rfl,hp5,ht5⟩:=hR;have hf5:=ht5 _ hf4;refine FA 2 eO e8 ?_;refine IX 4 ke aR ?_;refine S0 1 aR ?_;refine ax (ai (ae J17 (af (tp (cN (r:=3) rfl rfl rfl (by decide)) ?_))));refine PS ?_;refine ax (eD (sr λ_ J19=>PS ?_));refine nx J19 (aa λ_ J20=>CY (qx J20 (aa λ_ J21=>av (sr λ_ J22=>P2 ?_))));refine nx J22 (af (P2 ?_));refine CP jL (c8 rb v5 r5 (6)) ID (λ_ d _=>(hf5).more d) (λcP HP hP=>?_) (λvR HR hR=>?_)
 obtain⟨vP,rfl,rfl,hpP⟩:=hP;refine aQ (aA (aA (aQ (aA (WK [0] (aU ?_))))));exact⟨_,rfl,rfl,by simp[nB,pr,aE hp1,aE hp2,aE hp3,aE hp4,aE hp5,ca hpP]⟩;obtain⟨a6,r6,v6,rfl,rfl,hp6,ht6⟩:=hR;have hf6:=ht6 _ hf5;refine FA 2 eO e8 ?_;refine IX 5 ke aR ?_;refine S0 1 aR ?_;refine ax (ai (ae J21 (af (tp (cN (r:=4) rfl rfl rfl (by decide)) ?_))));refine PS ?_;refine ax (eD (sr λ_ J23=>PS ?_));refine nx J23 (aa λ_ J24=>CY (qx J24 (aa λ_ J25=>av (sr λ_ J26=>P2 ?_))));refine nx J26 (af (P2 ?_));refine CP jL (c8 rb v6 r6 (6)) ID (λ_ d _=>(hf6).more d) (λcP HP hP=>?_) (λvR HR hR=>?_);obtain⟨vP,rfl,rfl,hpP⟩:=hP;refine aQ (aA (aA (aQ (aA (WK [0] (aU ?_))))));exact⟨_,rfl,rfl,by simp[nB,pr,aE hp1,aE hp2,aE hp3,aE hp4,aE hp5,aE hp6,ca hpP]⟩;obtain⟨a7,r7,v7,rfl,rfl,hp7,ht7⟩:=hR;have hf7:=ht7 _ hf6;refine FA 2 eO e8 ?_;refine IX 6 ke aR ?_;refine S0 1 aR ?_;refine ax (ai (ae J25 (af (tp (cN (r:=5) rfl rfl rfl (by decide)) ?_))));refine PS ?_;refine ax (eD (sr λ_ J27=>PS ?_));refine nx J27 (aa λ_ J28=>CN (aX (aC (aC (bq (ae J5 (sr λ_ J29=>tp (aP (vs:=[(.int .i64 (a1)),(.int .i64 (a2)),(.int .i64 (a3)),(.int .i64 (a4)),(.int .i64 (a5)),(.int .i64 (a6)),(.int .i64 (a7))]) rfl eO rfl bm rfl (RO 1) rfl rfl) ?_)))))))
 refine bT (vs:=[(.int .i64 (a1)),(.int .i64 (a2)),(.int .i64 (a3)),(.int .i64 (a4)),(.int .i64 (a5)),(.int .i64 (a6)),(.int .i64 (a7))]) (i:=2) (ab rfl) rfl rfl rfl rfl rfl bm (by simp[Value.oneCell']) rfl rfl (MV rfl) rfl rfl (nx J29 (aj (RC 2 [0] eO bm rfl ?_)));exact⟨⟨a1,a2, #v[a3,a4,a5,a6,a7]⟩,_,_,rfl,rfl,by simp[nB,pr,aE hp1,aE hp2,aE hp3,aE hp4,aE hp5,aE hp6,aE hp7],(ht1.trans (ht2.trans (ht3.trans (ht4.trans (ht5.trans (ht6.trans ht7))))))⟩
theorem pC(rb:Nat)(v:Value)(bs:List UInt8):
 DT 145 #[(.pointer (some ⟨rb,0,none⟩))] (IsB v bs) [ak rb [v] 219] (oK 219 iS ChangeT.val l8 v bs rb):=by
 refine BD 14 Tryz.func145 rfl rfl rfl λw0 F hF=>sr λ_ J1=>XA Q7 λb2=>?_
 refine nx J1 (sr λ_ J2=>XA Q7 λb3=>?_);refine nx J2 (sr λ_ J3=>PS ?_);refine CP jL (c8 rb v bs (2)) (SM [2]) (λ_ d _=>(hF).more d) (λcP HP hP=>?_) (λvR HR hR=>?_);obtain⟨vP,rfl,rfl,hpP⟩:=hP;refine aA (WK [0] (aU ?_));exact⟨_,rfl,rfl,by simp[l8,pr,ca hpP]⟩;obtain⟨a1,r1,v1,rfl,rfl,hp1,ht1⟩:=hR;have hf1:=ht1 _ hF;refine FA 0 n5 aR ?_;refine S0 1 aR ?_;refine nx J3 (sr λ_ J4=>PS ?_);refine CP jL (c8 rb v1 r1 (5)) ID (λ_ d _=>(hf1).more d) (λcP HP hP=>?_) (λvR HR hR=>?_);obtain⟨vP,rfl,rfl,hpP⟩:=hP;refine aA (WK [0] (aU ?_));exact⟨_,rfl,rfl,by simp[l8,pr,aE hp1,ca hpP]⟩;obtain⟨a2,r2,v2,rfl,rfl,hp2,ht2⟩:=hR;have hf2:=ht2 _ hf1;refine FA 1 n5 aR ?_;refine S0 1 aR ?_;refine nx J4 (sr λ_ J5=>PS ?_);refine CP jL (c8 rb v2 r2 (5)) ID (λ_ d _=>(hf2).more d) (λcP HP hP=>?_) (λvR HR hR=>?_);obtain⟨vP,rfl,rfl,hpP⟩:=hP;refine aA (WK [0] (aU ?_));exact⟨_,rfl,rfl,by simp[l8,pr,aE hp1,aE hp2,ca hpP]⟩;obtain⟨a3,r3,v3,rfl,rfl,hp3,ht3⟩:=hR;have hf3:=ht3 _ hf2;refine FA 2 n5 aR ?_;refine S0 1 aR ?_;refine nx J5 (sr λ_ J6=>tp (aP (vs:=[(.int .i64 (a1)),(.int .i64 (a2)),(.int .i64 (a3))]) rfl n5 rfl fT rfl (RO 1) rfl rfl) ?_);refine bT (vs:=[(.int .i64 (a1)),(.int .i64 (a2)),(.int .i64 (a3))]) (i:=2) (ab rfl) rfl rfl rfl rfl rfl fT (by simp[Value.oneCell']) rfl rfl (MV rfl) rfl rfl (nx J6 (aj (RC 2 [0] n5 fT rfl ?_)))
 exact⟨⟨a1,a2,a3⟩,_,_,rfl,rfl,by simp[l8,pr,aE hp1,aE hp2,aE hp3],(ht1.trans (ht2.trans ht3))⟩
theorem jY(rb:Nat)(v:Value)(bs:List UInt8):
 DT 144 #[(.pointer (some ⟨rb,0,none⟩))] (IsB v bs) [ak rb [v] 219] (oK 219 iS BallotT.val kF v bs rb):=by
 refine BD 11 Tryz.func144 rfl rfl rfl λw0 F hF=>sr λ_ J1=>XA Q6 λb2=>?_
 refine nx J1 (sr λ_ J2=>XA Q6 λb3=>?_);refine nx J2 (sr λ_ J3=>PS ?_);refine CP qW (jK rb v bs) (SM [2]) (λ_ d _=>(hF).more d) (λcP HP hP=>?_) (λvR HR hR=>?_);obtain⟨vP,rfl,rfl,hpP⟩:=hP;refine aA (WK [0] (aU ?_));exact⟨_,rfl,rfl,by simp[kF,pr,ca hpP]⟩;obtain⟨a1,r1,v1,rfl,rfl,hp1,ht1⟩:=hR;have hf1:=ht1 _ hF;refine FA 0 kG aR ?_;refine S0 1 aR ?_;refine nx J3 (sr λ_ J4=>PS ?_);refine CP jL (c8 rb v1 r1 (5)) ID (λ_ d _=>(hf1).more d) (λcP HP hP=>?_) (λvR HR hR=>?_);obtain⟨vP,rfl,rfl,hpP⟩:=hP;refine aA (WK [0] (aU ?_));exact⟨_,rfl,rfl,by simp[kF,pr,aE hp1,ca hpP]⟩;obtain⟨a2,r2,v2,rfl,rfl,hp2,ht2⟩:=hR;have hf2:=ht2 _ hf1;refine FA 1 kG aR ?_;refine S0 1 aR ?_;refine nx J4 (sr λ_ J5=>tp (aP (vs:=[(.int .i64 (a1)),(.int .i64 (a2))]) rfl kG rfl cH rfl (RO 1) rfl rfl) ?_);refine bT (vs:=[(.int .i64 (a1)),(.int .i64 (a2))]) (i:=2) (ab rfl) rfl rfl rfl rfl rfl cH (by simp[Value.oneCell']) rfl rfl (MV rfl) rfl rfl (nx J5 (aj (RC 2 [0] kG cH rfl ?_)));exact⟨⟨a1,a2⟩,_,_,rfl,rfl,by simp[kF,pr,aE hp1,aE hp2],(ht1.trans ht2)⟩
theorem u7(rb:Nat)(v:Value)(bs:List UInt8):
 DT 142 #[(.pointer (some ⟨rb,0,none⟩))] (IsB v bs) [ak rb [v] 219] (oK 219 iS RowT.val wx v bs rb):=by
 refine BD 45 Tryz.func142 rfl rfl rfl λw0 F hF=>sr λ_ J1=>XZ vD (Api.ints Api.RowT.zero.flat) λb2=>?_
 refine nx J1 (sr λ_ J2=>XZ vD (Api.ints Api.RowT.zero.flat) λb3=>?_);refine nx J2 (sr λ_ J3=>PS ?_);refine CP qW (jK rb v bs) (SM [2]) (λ_ d _=>(hF).more d) (λcP HP hP=>?_) (λvR HR hR=>?_);obtain⟨vP,rfl,rfl,hpP⟩:=hP;refine aA (WK [0] (aU ?_));exact⟨_,rfl,rfl,by rw[wx,ca hpP]⟩;obtain⟨a1,r1,v1,rfl,rfl,hp1,ht1⟩:=hR;have hf1:=ht1 _ hF;refine FA 0 ec aR ?_;refine bT (vs:=[.int .i64 a1]) (i:=1) (ab rfl) rfl rfl rfl rfl rfl aR (bw [a1]) rfl rfl (by rw[am];show _+1≤174;omega) (RowT.wr_version _ _) rfl (nx J3 (aa λ_ J4=>sr λ_ J5=>PS ?_));refine nx J5 (av ?_)
 refine bz (α:=(Nat)×(RowT)×(Value)×(List UInt8)) (λ⟨k,x,u,r⟩=>k≤4∧IsB u r F∧Tail v bs u r∧wx bs=pb (nV (4-k) k x) (jP 5 0) r) (λ⟨k,x,u,r⟩=>[(0,(.pointer (some ⟨rb,0,none⟩))),(2,(.pointer (some ⟨b2,0,none⟩))),(3,(.pointer (some ⟨b3,0,none⟩))),(10,(.int .i64 ((k:Nat))))]) (λ⟨k,x,u,r⟩=>[ak b3 (ints (x).flat) 39,ak b2 (Api.ints Api.RowT.zero.flat) 39,ak rb [u] 219]) (λ⟨k,x,u,r⟩=>4-k) (0,({Api.RowT.zero with version:=a1}:RowT),v1,r1)
  ⟨by omega,hf1,ht1,by rw[wx,aE hp1]⟩ SB
  (λ_ s=>an [1,1,0] rfl s) (λ⟨k,x,u,r⟩ hinv=>?_)
 obtain⟨hk,hf,htl,hp⟩:=hinv;refine sr λ_ J6=>PS ?_
 refine aq ?_ ?_<;>intro h11;refine nx J6 (aa λ_ J7=>CY (qx J7 (aa λ_ J8=>av (sr λ_ J9=>P2 ?_))));refine nx J9 (af (P2 ?_));refine CP NF (xW rb u r) (SM [2]) (λ_ d _=>(hf).more d) (λcP HP hP=>?_) (λvR HR hR=>?_);obtain⟨vP,rfl,rfl,hpP⟩:=hP;refine aQ (aA (aA (aQ (aA (WK [0] (aU ?_))))));exact⟨_,rfl,rfl,by rw[hp,EV (by omega) hpP]⟩;obtain⟨a2,r2,v2,rfl,rfl,hp2,ht2⟩:=hR;have hf2:=ht2 _ hf;refine FA 1 ec ma ?_;refine IX (1+k*7) CB fN ?_;refine bT (vs:=ints a2.flat) (i:=1) (ab rfl) rfl rfl rfl rfl rfl (by rw[bu];exact fN) (bw _) rfl rfl (by rw[am,bu];omega) (RowT.wr_cell _ k (by omega) _) rfl (ax (ai (ae J8 (af (AD ?_)))));refine PS ?_;refine ax ?_
 exact aM ((k+1,({x with cells:=(x).cells.set k a2 (by omega)}:RowT),v2,r2):(Nat)×(RowT)×(Value)×(List UInt8)) ⟨by omega,hf2,(htl.trans ht2),by rw[hp,EX (by omega) hp2]⟩ (by show _-_<_-_;omega)
  SB
  (λ_ s=>an [1,1,0] rfl s)
 refine nx J6 (aa λ_ J10=>CN (aX (aC (aC (bq (ae J4 (aa λ_ J11=>sr λ_ J12=>PS ?_)))))));refine nx J12 (av ?_)
 refine bz (α:=(Nat)×(RowT)×(Value)×(List UInt8)) (λ⟨i,x,u,r⟩=>i≤5∧IsB u r F∧Tail v bs u r∧wx bs=jP (5-i) i x r) (λ⟨i,x,u,r⟩=>[(0,(.pointer (some ⟨rb,0,none⟩))),(2,(.pointer (some ⟨b2,0,none⟩))),(3,(.pointer (some ⟨b3,0,none⟩))),(19,(.int .i64 ((i:Nat))))]) (λ⟨i,x,u,r⟩=>[ak b3 (ints (x).flat) 39,ak b2 (Api.ints Api.RowT.zero.flat) 39,ak rb [u] 219]) (λ⟨i,x,u,r⟩=>5-i) (0,x,u,r)
  ⟨by omega,hf,htl,by rw[hp,GJ (by omega)]⟩ SB
  (λ_ s=>an [0,0,0] rfl s) (λ⟨i,x,u,r⟩ hinv=>?_)
 obtain⟨hi,hf,htl,hp⟩:=hinv;refine sr λ_ J13=>PS ?_
 refine aq ?_ ?_<;>intro h20;refine nx J13 (aa λ_ J14=>CY (qx J14 (aa λ_ J15=>av (sr λ_ J16=>P2 ?_))));refine nx J16 (sr λ_ J17=>P2 ?_);refine CP qW (jK rb u r) (SM [2]) (λ_ d _=>(hf).more d) (λcP HP hP=>?_) (λvR HR hR=>?_);obtain⟨vP,rfl,rfl,hpP⟩:=hP;refine aA (aQ (aA (aA (aQ (aA (WK [0] (aU ?_)))))));exact⟨_,rfl,rfl,by rw[hp,Em (by omega) hpP]⟩;obtain⟨a2,r2,v2,rfl,rfl,hp2,ht2⟩:=hR;have hf2:=ht2 _ hf;refine FA 29 ec e8 ?_;refine IX (29+i) ke aR ?_;refine bT (vs:=[.int .i64 a2]) (i:=1) (ab rfl) rfl rfl rfl rfl rfl aR (bw [a2]) rfl rfl (by rw[am];show _+1≤174;omega) (RowT.wr_heir _ i (by omega) _) rfl (nx J17 (sr λ_ J18=>PS ?_));refine FA 29 ec e8 ?_;refine IX (29+i) ke aR ?_;refine LT 1 Y3 (.int .i64 (a2)) ?_ (hc:=by exact by rw[RowT.get_heir _ i (by omega)];simp);refine PS ?_;refine aq ?_ ?_<;>intro h31;refine nx J18 (CY (sr λ_ J19=>PS ?_));refine nx J19 (av ?_)
 refine bz (α:=(Nat)×(RowT)×(Value)×(List UInt8)) (λ⟨k,y,uL,rL⟩=>k≤4∧IsB uL rL F∧Tail v bs uL rL∧wx bs=pb (q6 (4-k) i k y) (jP (5- (i+1)) (i+1)) rL) (λ⟨k,y,uL,rL⟩=>[(0,(.pointer (some ⟨rb,0,none⟩))),(2,(.pointer (some ⟨b2,0,none⟩))),(3,(.pointer (some ⟨b3,0,none⟩))),(5,(.int .i64 ((i:Nat)))),(19,(.int .i64 ((i:Nat)))),(32,(.int .i64 ((k:Nat))))]) (λ⟨k,y,uL,rL⟩=>[ak b3 (ints (y).flat) 39,ak b2 (Api.ints Api.RowT.zero.flat) 39,ak rb [uL] 219]) (λ⟨k,y,uL,rL⟩=>4-k) (0,({x with heir:=(x).heir.set i a2}:RowT),v2,r2)
  ⟨by omega,hf2,(htl.trans ht2),by rw[hp,Gk (by omega) hp2 h31]⟩ SB
  (λ_ s=>an [1,1,0] rfl s) (λ⟨k,y,uL,rL⟩ hinv=>?_)
 obtain⟨hk,hfL,htlL,hpL⟩:=hinv;refine sr λ_ J20=>PS ?_
 refine aq ?_ ?_<;>intro h33;refine nx J20 (aa λ_ J21=>CY (qx J21 (aa λ_ J22=>av (sr λ_ J23=>P2 ?_))));refine nx J23 (D0 mixed ?_);refine PD 0 ?_;refine PD 1 ?_;refine PD 2 ?_;refine FD 4 34 ec C9 ?_;refine IY 5 (34+i*28) N2 ma ?_;refine AL 3 ?_;refine CP NF (xW rb uL rL) (SM [2]) (λ_ d _=>(hfL).more d) (λcP HP hP=>?_) (λvR HR hR=>?_);obtain⟨vP,rfl,rfl,hpP⟩:=hP;refine aA (aQ (aA (aA (aQ (aQ (aA (aA (aQ (aA (WK [0] (aU ?_)))))))))));exact⟨_,rfl,rfl,by rw[hpL,Gd (by omega) hpP]⟩;obtain⟨a3,r3,v3,rfl,rfl,hp3,ht3⟩:=hR;have hf3:=ht3 _ hfL;refine EN (IY 6 (34+i*28+k*7) CB fN ?_);refine AL 7 ?_;refine bT (vs:=ints a3.flat) (i:=1) (ab rfl) rfl rfl rfl rfl rfl (by rw[bu];exact fN) (bw _) rfl rfl (by rw[am,bu];omega) (RowT.wr_left _ i k (by omega) (by omega) _) rfl (EN (DN (ai (ae J22 (af (AD ?_))))));refine PS ?_;refine ax ?_
 exact aM ((k+1,({y with left:=(y).left.set i (((y).left[i]'(by omega)).set k a3 (by omega)) (by omega)}:RowT),v3,r3):(Nat)×(RowT)×(Value)×(List UInt8)) ⟨by omega,hf3,(htlL.trans ht3),by rw[hpL,Ge (by omega) (by omega) hp3]⟩ (by show _-_<_-_;omega)
  SB
  (λ_ s=>an [1,1,0] rfl s)
 refine nx J20 (aa λ_ J24=>CN (aX (aC (aC (bq (ai (ae J15 (af (AD ?_)))))))));refine PS ?_;refine ax ?_
 exact aM ((i+1,y,uL,rL):(Nat)×(RowT)×(Value)×(List UInt8)) ⟨by omega,hfL,htlL,by rw[hpL,I6 (by omega)]⟩ (by show _-_<_-_;omega)
  SB
  (λ_ s=>an [0,0,0] rfl s)
 refine nx J18 (CN (aV (ai (ae J15 (af (AD ?_))))));refine PS ?_;refine ax ?_
 exact aM ((i+1,({x with heir:=(x).heir.set i a2}:RowT),v2,r2):(Nat)×(RowT)×(Value)×(List UInt8)) ⟨by omega,hf2,(htl.trans ht2),by rw[hp,Jf (by omega) hp2 h31]⟩ (by show _-_<_-_;omega)
  SB
  (λ_ s=>an [1,1,0] rfl s)
 refine nx J13 (aa λ_ J25=>CN (aX (aC (aC (bq (ae J11 (sr λ_ J26=>tp (aP (vs:=ints (x).flat) rfl ec rfl bg rfl (RO 0) (am _) (by rw[ba,az (by rw[am];decide)])) ?_)))))));refine bT (vs:=ints (x).flat) (i:=1) (ab rfl) rfl rfl rfl rfl rfl (by rw[am];exact bg) (bw _) rfl rfl (by rw[am,bi,am];decide) (gE (by rw[am,am])) rfl (nx J26 (aj (RC 1 [2] ec bg (am _) ?_)));exact⟨x,_,_,rfl,rfl,by rw[hp,Gl (by omega)],htl⟩
theorem ko(n:Int):
 DT 28 #[(.int .i64 (n))] T0 [] (RI (.bool (F0 n)) []):=by
 refine BD 9 Tryz.func28 rfl rfl rfl λw0 F hF=>sr λ_ J1=>PS ?_
 refine nx J1 (sr λ_ J2=>P2 ?_);refine aq ?_ ?_<;>intro h4
 iterate 5 refine PS ?_
 refine nx J2 (aj (aw rfl rfl ?_));exact⟨congrArg Value.bool (by unfold F0;first| (rw[decide_eq_decide];omega)| (symm;rw[decide_eq_false_iff_not];omega)| (symm;rw[decide_eq_true_iff];omega)),rfl⟩;refine PS ?_;refine UF ?_;refine UF ?_;refine P2 ?_;refine nx J2 (aj (aw rfl rfl ?_));exact⟨congrArg Value.bool (by unfold F0;first| (rw[decide_eq_decide];omega)| (symm;rw[decide_eq_false_iff_not];omega)| (symm;rw[decide_eq_true_iff];omega)),rfl⟩
theorem kg(w:Int):
 DT 100 #[(.int .i64 (w))] T0 [] (RI (.bool (cO w)) []):=by
 refine BD 9 Tryz.func100 rfl rfl rfl λw0 F hF=>sr λ_ J1=>PS ?_
 refine nx J1 (sr λ_ J2=>P2 ?_);refine aq ?_ ?_<;>intro h4
 iterate 5 refine PS ?_
 refine nx J2 (aj (aw rfl rfl ?_));exact⟨congrArg Value.bool (by unfold cO;first| (rw[decide_eq_decide];omega)| (symm;rw[decide_eq_false_iff_not];omega)| (symm;rw[decide_eq_true_iff];omega)),rfl⟩;refine PS ?_;refine UF ?_;refine UF ?_;refine P2 ?_;refine nx J2 (aj (aw rfl rfl ?_));exact⟨congrArg Value.bool (by unfold cO;first| (rw[decide_eq_decide];omega)| (symm;rw[decide_eq_false_iff_not];omega)| (symm;rw[decide_eq_true_iff];omega)),rfl⟩
theorem dR(v:ViewT)(w:Int):
 DT 71 #[(.agg (ints v.flat).toArray),(.int .i64 (w))] T0 [] (RI (.bool (jr v w)) []):=by
 refine BD 15 Tryz.func71 rfl rfl rfl λw0 F hF=>sr λ_ J1=>XY (ints v.flat) λb2=>?_
 refine PS ?_;refine nx J1 (sr λ_ J2=>PS ?_);refine CE D4 (kg w) ID ?_;refine bh ?_ ?_<;>intro h6;have hm:0≤w∧w<5:=of_decide_eq_true h6;refine PS ?_;refine FA 1 eO aR ?_;refine LU 0 Y3 (iU v rfl) ?_;refine PS ?_;refine tq (mB (r:=(v.members.fdiv (2^min w.toNat IntKind.i64.bits))) rfl rfl rfl (by omega) rfl) ?_;refine tq (wK (r:=((v.members.fdiv (2^min w.toNat IntKind.i64.bits))%2)) rfl rfl rfl (Nd _)) ?_;refine P3 ?_;refine nx J2 (aj (WK [] (aw rfl rfl ?_)));exact⟨congrArg Value.bool (by rw[jr,h6];rfl),rfl⟩;refine PS ?_
 iterate 6 refine UF ?_
 refine P2 ?_;refine nx J2 (aj (WK [] (aw rfl rfl ?_)));exact⟨congrArg Value.bool (by rw[jr,h6];rfl),rfl⟩
theorem BZ(b off cap:Nat)(l:List Int)(hl:l.length≤1000)(cs:List Value)(T:TypeId)(z:Nat×Nat)(hb: ∀j,j<l.length→cs[off+j]?=some (.int .i64 (l.getD j 0))):
 DT 136 #[(.slice (some ⟨b,off,none⟩) (l.length) (cap))] (λF=>F b=some (.cells cs.toArray T z)) [] (RI (.tuple #[.int .i64 (s7 l 0).1, .int .i64 (s7 l 0).2]) []):=by
 refine BD 25 Tryz.func136 rfl rfl rfl λw0 F hF=>sr λ_ J1=>P2 ?_
 refine nx J1 (sr λ_ J2=>PS ?_);refine nx J2 (aa λ_ J3=>sr λ_ J4=>PS ?_);refine tp (n4 rfl jx rfl) ?_;refine PS ?_;refine nx J4 (av ?_)
 refine bz (α:=(Nat)×(Int)) (λ⟨k,s⟩=>k≤l.length∧0≤s∧s≤1099511627776∧s7 l 0=s7 (l.drop k) s) (λ⟨k,s⟩=>[(4,(.int .i64 (s))),(7,(.slice (some ⟨b,off,none⟩) (l.length) (cap))),(8,(.int .i64 (((l.length:Nat):Int)))),(9,(.int .i64 (((k:Nat):Int))))]) (λ⟨k,s⟩=>[]) (λ⟨k,s⟩=>l.length-k) (0,0)
  ⟨aO _,by omega,by omega,rfl⟩ SB
  (λ_ s=>s) (λ⟨k,s⟩ hinv=>?_)
 obtain⟨hk,hs0,hs1,he⟩:=hinv;refine sr λ_ J5=>PS ?_
 refine aq ?_ ?_<;>intro h10;refine nx J5 (aa λ_ J6=>CY (qx J6 (aa λ_ J7=>av (sr λ_ J8=>tp (j6 (r:=off+k) rfl jx aR rfl rfl (by first|omega|decide) (by first|omega|decide) (by omega)) ?_))));refine tp (ic (v:=(.int .i64 ((l.getD k 0)))) rfl Y3 rfl rfl (Rd.ro hF) (hb k (by omega))) ?_;refine PS ?_;refine nx J8 (aa λ_ J9=>sr λ_ J10=>PS ?_);refine CE KK (ko (l.getD k 0)) ID ?_;refine bh ?_ ?_<;>intro h14;have hn:0≤l.getD k 0∧l.getD k 0≤1099511627776:=of_decide_eq_true h14;refine PS ?_;refine nx J10 (CN (qx J9 (aa λ_ J11=>sr λ_ J12=>P2 ?_)));refine tp (jC rfl rfl rfl (bY (by omega) (by omega))) ?_;refine PS ?_;refine aq ?_ ?_<;>intro h19;refine nx J12 (CY (sr λ_ J13=>P2 ?_));refine nx J13 (aj (ag (aK (ag (ag (aK (ag (WK [] (iu rfl rfl rfl ?_)))))))));exact⟨by rw[he,y1 (show k<l.length by omega),if_pos h14,if_pos (by omega)],rfl⟩;refine nx J12 (CN (qx J11 (af (P2 ?_))));refine AD ?_;refine PS ?_;refine ax (ai (ae J7 (af (AD ?_))));refine PS ?_;refine ax ?_
 exact aM ((k+1,s+l.getD k 0):(Nat)×(Int)) ⟨by omega,by omega,by omega,by rw[he,y1 (show k<l.length by omega),if_pos h14,if_neg (by omega)]⟩ (by show l.length- (k+1)<l.length-k;omega)
  SB
  (λ_ s=>s)
 refine PS ?_;refine nx J10 (CY (sr λ_ J14=>P2 ?_));refine nx J14 (aj (ag (aK (ag (ag (aK (ag (WK [] (iu rfl rfl rfl ?_)))))))));exact⟨by rw[he,y1 (show k<l.length by omega),if_neg (by rw[h14];decide)],rfl⟩;refine nx J5 (aa λ_ J15=>CN (aX (aC (aC (bq (ae J3 (sr λ_ J16=>P3 ?_)))))));refine nx J16 (aj (WK [] (iu rfl rfl rfl ?_)));exact⟨by rw[he,fl (by omega)];rfl,rfl⟩
theorem F1:
 DT 136 #[(.slice none 0 0)] T0 [] (RI (.tuple #[.int .i64 (s7 [] 0).1, .int .i64 (s7 [] 0).2]) []):=by
 refine BD 25 Tryz.func136 rfl rfl rfl λw0 F hF=>sr λ_ J1=>P2 ?_
 refine nx J1 (sr λ_ J2=>PS ?_);refine nx J2 (aa λ_ J3=>sr λ_ J4=>PS ?_);refine tp (n4 rfl jx rfl) ?_;refine PS ?_;refine nx J4 (av ?_)
 refine bz (α:=Unit) (λ_u=>True) (λ_u=>[(4,(.int .i64 0)),(7,(.slice none 0 0)),(8,(.int .i64 0)),(9,(.int .i64 0))]) (λ_u=>[]) (λ_u=>0) ()
  trivial SB
  (λ_ s=>s) (λ_u hinv=>?_)
 obtain _:=hinv;refine sr λ_ J5=>PS ?_
 refine nx J5 (aa λ_ J6=>CN (aX (aC (aC (bq (ae J3 (sr λ_ J7=>P3 ?_)))))));exact nx J7 (aj (WK [] (iu rfl rfl rfl ⟨rfl,rfl⟩)))
theorem DY(x:Value)(l:List Int)(hl:l.length≤1000):DT 136 #[x] (R9 x l) [] (RI (.tuple #[.int .i64 (s7 l 0).1, .int .i64 (s7 l 0).2]) []):=by
 refine Leg.Does.of λF hF=>?_
 rcases id hF with⟨rfl,rfl⟩| ⟨b,off,cap,cs,T,z,rfl,h3,h4⟩
 · exact⟨_,trivial,F1⟩
 · exact⟨_,h3,BZ b off cap l hl cs T z h4⟩
theorem pY(x:Vector CellT 4):
    DT 98 #[(.agg (ints (bS x.toList)).toArray)] T0 [] (RI (.bool (BX x)) []):=by
 refine BD 30 Tryz.func98 rfl rfl rfl λw0 F hF=>sr λ_ J1=>XY (ints (bS x.toList)) λb1=>?_
 refine PS ?_;refine nx J1 (aa λ_ J2=>sr λ_ J3=>tp (aP (vs:=ints (bS x.toList)) rfl CB rfl ma rfl (RO 0) (eu x) (whole (eu x))) ?_);refine PS ?_;refine nx J3 (av ?_)
 refine bz (α:=(Nat)) (λk=>k≤4∧∀(j:Nat) (h:j<4),j<k→Ny x[j]=true) (λk=>[(7,(.agg (ints (bS x.toList)).toArray)),(8,(.int .i64 (((k:Nat):Int))))]) (λk=>[ak b1 (ints (bS x.toList)) 36]) (λk=>4-k) 0
     ⟨aO _,λj h hj=>absurd hj (by omega)⟩ SB
     (λ_ s=>s) (λk hinv=>?_)
 obtain⟨hk,ho⟩:=hinv;refine sr λ_ J4=>PS ?_
 refine aq ?_ ?_<;>intro h9;refine nx J4 (aa λ_ J5=>CY (qx J5 (aa λ_ J6=>av (sr λ_ J7=>tp (PV.indexN (cs:=ints (bS x.toList)) (vs:=ints (x[k]'(by omega)).flat) (r:=k*7) rfl CB nw rfl fN rfl rfl (by omega) (by omega) (by omega) (k9 bD x (i:=k) 0 (by omega) (by omega) (by decide) (whole (bu (x[k]'(by omega)))))) ?_))));refine XZ L8 (ints CellT.zero.flat) λb4=>?_
 refine SW 0 fN bu ?_;refine nx J7 (aa λ_ J8=>sr λ_ J9=>FA 0 nw aR ?_);refine LT 0 Y3 (.int .i64 ((x[k]'(by omega)).inn)) ?_ (hc:=by exact ti _ rfl);refine CE KK (ko ((x[k]'(by omega)).inn)) ID ?_;refine bh ?_ ?_<;>intro h13;refine PS ?_;refine PS ?_;refine FA 1 nw aR ?_;refine LT 0 Y3 (.int .i64 ((x[k]'(by omega)).out)) ?_ (hc:=by exact th _ rfl);refine CE KK (ko ((x[k]'(by omega)).out)) ID ?_;refine bh ?_ ?_<;>intro h18;refine PS ?_;refine PS ?_;refine nx J9 (CN (qx J8 (sr λ_ J10=>FA 2 nw e8 ?_)));refine tp (mA rfl ke aR rfl) ?_;refine CF Qa (DY (.slice (some ⟨b4,2,none⟩) (5) (5)) ((x[k]'(by omega)).given).toList (by simp)) ID (dS 0 rfl rfl (by simp) (by rw[aB];exact(CellT.sub_given (x[k]'(by omega)) 0 rfl (by decide) (whole (dC ((x[k]'(by omega)).given)))))) ?_;refine P4 ?_;refine PS ?_;refine nx J10 (sr λ_ J11=>P2 ?_);refine aq ?_ ?_<;>intro h28;refine nx J11 (CY (sr λ_ J12=>PS ?_));refine nx J12 (aj (aK (ag (ag (aK (ag (WK [] (aw rfl rfl ⟨congrArg Value.bool ?_,rfl⟩))))))));symm;rw[BX,decide_eq_false_iff_not];intro h;have h:=h k (by omega);unfold Ny at h;simp at h;exact absurd h.2 h28;refine nx J11 (CN (aV (ai (ae J6 (af (AD ?_))))));refine PS ?_;refine ax ?_
 exact aM ((k+1):(Nat)) ⟨by omega,λj h hj=>by
        by_cases q:j=k
        · subst q;unfold Ny;simp_all
        · exact ho j h (by omega)⟩ (by show 4- (k+1)<4-k;omega)
   SB
   (λ_ s=>an [1] rfl s)
 refine PS ?_;refine PS ?_;refine nx J9 (CY (sr λ_ J13=>PS ?_));refine nx J13 (aj (ag (aK (ag (ag (aK (ag (WK [] (aw rfl rfl ⟨congrArg Value.bool ?_,rfl⟩)))))))));symm;rw[BX,decide_eq_false_iff_not];intro h;have h:=h k (by omega);unfold Ny at h;simp[h18]at h;refine PS ?_;refine PS ?_
 iterate 4 refine UT ?_
 refine PS ?_;refine nx J9 (CY (sr λ_ J14=>PS ?_));refine nx J14 (aj (ag (aK (ag (ag (aK (ag (WK [] (aw rfl rfl ⟨congrArg Value.bool ?_,rfl⟩)))))))));symm;rw[BX,decide_eq_false_iff_not];intro h;have h:=h k (by omega);unfold Ny at h;simp[h13]at h;refine nx J4 (aa λ_ J15=>CN (aX (aC (aC (bq (ae J2 (sr λ_ J16=>PS ?_)))))));refine nx J16 (aj (WK [] (aw rfl rfl ?_)));exact⟨congrArg Value.bool (by symm;rw[BX,decide_eq_true_iff];exact λj h=>ho j h (by omega)),rfl⟩
theorem Ro:Tryz.prog.eqGuardType Tryz.prog.depth 36=false:=by kernel_rfl
theorem Rk:Tryz.prog.keyTypeAt 6 36=true:=by kernel_rfl
theorem RY:rc Tryz.prog 6 36=some 28:=by kernel_rfl
theorem Qx:(match Tryz.prog.underlying 36 with|some (.struct _)|some (.array _ _)=>true|_=>false)=true:=by kernel_rfl
theorem QD:Tryz.prog.cellsOf 36=28:=by kernel_rfl
theorem Mf{x:RowT}(h:WF x.flat)(i:Nat)(hi:i<5):WF (bS x.left[i].toList):=λn hn=>h n (by
 simp only[RowT.flat,cg,bP,kB]
 exact .inr (.inr (.inr ⟨x.left[i],by simp[Vector.getElem_mem],hn⟩)))
theorem Pd:WF (bS RowT.zero.left[0].toList):=λn hn=>by
 have:n∈List.replicate 28 (0:Int):=hn;obtain rfl:=List.eq_of_mem_replicate this;decide
theorem kl(x:RowT)(hw:WF x.flat):
    DT 59 #[(.agg (ints x.flat).toArray)] T0 [] (RI (.bool (fF x)) []):=by
 refine BD 41 Tryz.func59 rfl rfl rfl λw0 F hF=>sr λ_ J1=>XY (ints x.flat) λb1=>?_
 refine PS ?_;refine nx J1 (aa λ_ J2=>sr λ_ J3=>FA 0 ec aR ?_);refine LU 0 Y3 (cB x rfl) ?_;refine PS ?_;refine aq ?_ ?_<;>intro h7;refine PS ?_
 iterate 4 refine UT ?_
 refine PS ?_;refine nx J3 (CY (sr λ_ J4=>PS ?_));refine nx J4 (aj (ag (WK [] (aw rfl rfl ⟨congrArg Value.bool ?_,rfl⟩))));symm;rw[fF,fD];intro h;rw[ay,ay,decide_eq_true_iff,decide_eq_true_iff]at h;omega;refine PS ?_;refine FA 1 ec ma ?_;refine tq (aP (vs:=ints (bS x.cells.toList)) rfl CB rfl ma rfl (RO 0) (eu x.cells) (Fh x 0 rfl (by decide) (whole (eu x.cells)))) ?_;refine CE Pq (pY x.cells) ID ?_;refine bh ?_ ?_<;>intro h11;refine PS ?_;refine PS ?_;refine nx J3 (CN (qx J2 (aa λ_ J5=>sr λ_ J6=>FA 29 ec e8 ?_)));refine tp (aP (vs:=ints x.heir.toList) rfl ke rfl e8 rfl (RO 0) (dC x.heir) (R0 x 0 rfl (by decide) (whole (dC x.heir)))) ?_;refine PS ?_;refine nx J6 (av ?_)
 refine bz (α:=(Nat)) (λi=>i≤5∧∀(j:Nat) (h:j<5),j<i→El x.heir[j] x.left[j]=true) (λi=>[(1,(.pointer (some ⟨b1,0,none⟩))),(15,(.agg (ints x.heir.toList).toArray)),(16,(.int .i64 (((i:Nat):Int))))]) (λi=>[ak b1 (ints x.flat) 39]) (λi=>5-i) 0
     ⟨aO _,λj h hj=>absurd hj (by omega)⟩ SB
     (λ_ s=>s) (λi hinv=>?_)
 obtain⟨hi,ho⟩:=hinv;refine sr λ_ J7=>PS ?_
 refine aq ?_ ?_<;>intro h17;refine nx J7 (aa λ_ J8=>CY (qx J8 (aa λ_ J9=>av (sr λ_ J10=>PS ?_))));refine tp (mM (cs:=ints x.heir.toList) (v:=Value.int .i64 (x.heir[i]'(by omega))) (r:=i) rfl ke Y3 rfl aR rfl rfl (by omega) (by omega) (by omega) (kN x.heir (by omega))) ?_;refine P2 ?_;refine nx J10 (aa λ_ J11=>sr λ_ J12=>P2 ?_);refine aq ?_ ?_<;>intro h21;refine PS ?_
 iterate 6 refine UT ?_
 refine PS ?_;refine nx J12 (CY (sr λ_ J13=>PS ?_));refine nx J13 (aj (ag (aK (ag (ag (aK (ag (WK [] (aw rfl rfl ⟨congrArg Value.bool ?_,rfl⟩)))))))));symm;rw[fF,fD];intro h;rw[ay,ay,decide_eq_true_iff,decide_eq_true_iff]at h;have h:=h.2 i (by omega);unfold El at h;rw[ay,ay,decide_eq_true_iff,decide_eq_true_iff]at h;omega;refine P2 ?_;refine FA 34 ec C9 ?_;refine IX (34+i*28) N2 ma ?_;refine tq (aP (vs:=ints (bS (x.left[i]'(by omega)).toList)) rfl CB rfl ma rfl (RO 0) (eu (x.left[i]'(by omega))) (HK x (i*28) (by omega) (by omega) (k9 uQ x.left (i:=i) 0 (by omega) (by omega) (by decide) (whole (eu (x.left[i]'(by omega))))))) ?_;refine CE Pq (pY (x.left[i]'(by omega))) ID ?_;refine bh ?_ ?_<;>intro h27;refine PS ?_;refine PS ?_;refine nx J12 (CN (qx J11 (sr λ_ J14=>P2 ?_)));refine aq ?_ ?_<;>intro h31;refine P2 ?_;refine FA 34 ec C9 ?_;refine IX (34+i*28) N2 ma ?_;refine tq (aP (vs:=ints (bS (x.left[i]'(by omega)).toList)) rfl CB rfl ma rfl (RO 0) (eu (x.left[i]'(by omega))) (HK x (i*28) (by omega) (by omega) (k9 uQ x.left (i:=i) 0 (by omega) (by omega) (by decide) (whole (eu (x.left[i]'(by omega))))))) ?_;refine BV ((ints (bS RowT.zero.cells.toList)).toArray) ?_
 refine tq (No (a:=bS (x.left[i]'(by omega)).toList) (b:=bS RowT.zero.cells.toList) (m:=6) (c:=28) Ro Rk rfl RY (ff (eu (x.left[i]'(by omega)))) (ff (eu RowT.zero.cells)) ⟨jm Qx QD (ff (eu (x.left[i]'(by omega)))),jm Qx QD (ff (eu RowT.zero.cells))⟩ (Mf hw i (by omega)) Pd rfl rfl rfl) ?_;refine aq ?_ ?_<;>intro h38;refine PS ?_;refine nx J14 (CY (sr λ_ J15=>PS ?_));refine nx J15 (aj (aK (ag (ag (aK (ag (WK [] (aw rfl rfl ⟨congrArg Value.bool ?_,rfl⟩))))))));symm;rw[fF,fD];intro h;rw[ay,ay,decide_eq_true_iff,decide_eq_true_iff]at h;have h:=h.2 i (by omega);unfold El at h;rw[ay,ay,decide_eq_true_iff,decide_eq_true_iff]at h;exact h38 (h.2 h31);refine PS ?_;refine nx J14 (CN (aV (ai (ae J9 (af (AD ?_))))));refine PS ?_;refine ax ?_
 exact aM ((i+1):(Nat)) ⟨by omega,λj h hj=>by
        by_cases q:j=i
        · subst q;unfold El;rw[ay,ay,decide_eq_true_iff,decide_eq_true_iff];exact⟨⟨by omega,h27⟩,λe=>by first|exact absurd e h31|exact Classical.not_not.1 h38⟩
        · exact ho j h (by omega)⟩ (by show 5- (i+1)<5-i;omega)
   SB
   (λ_ s=>s)
 refine PS ?_
 iterate 6 refine UF ?_
 refine PS ?_;refine nx J14 (CN (aV (ai (ae J9 (af (AD ?_))))));refine PS ?_;refine ax ?_
 exact aM ((i+1):(Nat)) ⟨by omega,λj h hj=>by
        by_cases q:j=i
        · subst q;unfold El;rw[ay,ay,decide_eq_true_iff,decide_eq_true_iff];exact⟨⟨by omega,h27⟩,λe=>by first|exact absurd e h31|exact Classical.not_not.1 h38⟩
        · exact ho j h (by omega)⟩ (by show 5- (i+1)<5-i;omega)
   SB
   (λ_ s=>s)
 refine PS ?_;refine PS ?_;refine nx J12 (CY (sr λ_ J16=>PS ?_));refine nx J16 (aj (ag (aK (ag (ag (aK (ag (WK [] (aw rfl rfl ⟨congrArg Value.bool ?_,rfl⟩)))))))));symm;rw[fF,fD];intro h;rw[ay,ay,decide_eq_true_iff,decide_eq_true_iff]at h;have h:=h.2 i (by omega);unfold El at h;rw[ay,ay,decide_eq_true_iff,decide_eq_true_iff]at h;rw[h27]at h;exact absurd h.1.2 (by decide);refine nx J7 (aa λ_ J17=>CN (aX (aC (aC (bq (ae J5 (sr λ_ J18=>PS ?_)))))));refine nx J18 (aj (WK [] (aw rfl rfl ?_)));exact⟨congrArg Value.bool (by symm;rw[fF,ay,ay,decide_eq_true_iff,decide_eq_true_iff];exact⟨⟨by omega,h11⟩,λj h=>ho j h (by omega)⟩),rfl⟩;refine PS ?_;refine PS ?_;refine nx J3 (CY (sr λ_ J19=>PS ?_));refine nx J19 (aj (ag (WK [] (aw rfl rfl ⟨congrArg Value.bool ?_,rfl⟩))));symm;rw[fF,fD];intro h;rw[ay,ay,decide_eq_true_iff,decide_eq_true_iff]at h;rw[h11]at h;exact absurd h.1.2 (by decide)
theorem yH:
 DT 62 #[] T0 [] (RI (.agg (ints firstV.flat).toArray) []):=by
 refine BD 2 Tryz.func62 rfl rfl rfl λw0 F hF=>sr λ_ J1=>XZ tj (ints ViewT.zero.flat) λb0=>?_
 refine nx J1 (sr λ_ J2=>tp (zS (cs:=ints (ViewT.mk 1 7 (#v[0,0,0,0,0])).flat) (segs:=[[Value.int .i64 0],[Value.int .i64 0],ints (#v[0,0,0,0,0]).toList]) (res:=[[Value.int .i64 1],[Value.int .i64 7],ints (#v[0,0,0,0,0]).toList]) (parts:=[(0,[Value.int .i64 1]),(1,[Value.int .i64 7])]) rfl rfl eO (by kernel_rfl) (by kernel_rfl) rfl (fw rfl rfl (fw rfl rfl mi)) (n0 (ViewT.mk 1 7 (#v[0,0,0,0,0]))).symm) ?_);refine SW 0 bm ap ?_;refine nx J2 (aj (RC 0 [] eO bm (ap _) ?_));exact⟨rfl,rfl⟩
theorem nA(v:ViewT)(hh:Rng v):
    DT 147 #[(.agg (ints v.flat).toArray)] T0 [] (RI (.bool (kJ v)) []):=by
 refine BD 39 Tryz.func147 rfl rfl rfl λw0 F hF=>sr λ_ J1=>XY (ints v.flat) λb1=>?_
 refine PS ?_;refine nx J1 (aa λ_ J2=>sr λ_ J3=>FA 0 eO aR ?_);refine LU 0 Y3 (be v rfl) ?_;refine PS ?_;refine aq ?_ ?_<;>intro h7;refine PS ?_
 iterate 3 refine UT ?_
 refine P2 ?_
 iterate 3 refine UT ?_
 refine PS ?_;refine nx J3 (CY (sr λ_ J4=>PS ?_));refine nx J4 (aj (ag (WK [] (aw rfl rfl ⟨congrArg Value.bool ?_,rfl⟩))));symm;rw[kJ,fD];intro h;rw[ay,decide_eq_true_iff,decide_eq_true_iff]at h;omega;refine PS ?_;refine FA 1 eO aR ?_;refine LU 0 Y3 (iU v rfl) ?_;refine PS ?_;refine aq ?_ ?_<;>intro h11;refine P2 ?_
 iterate 3 refine UT ?_
 refine PS ?_;refine nx J3 (CY (sr λ_ J5=>PS ?_));refine nx J5 (aj (ag (WK [] (aw rfl rfl ⟨congrArg Value.bool ?_,rfl⟩))));symm;rw[kJ,fD];intro h;rw[ay,decide_eq_true_iff,decide_eq_true_iff]at h;omega;refine P2 ?_;refine FA 1 eO aR ?_;refine LU 0 Y3 (iU v rfl) ?_;refine PS ?_;refine aq ?_ ?_<;>intro h16;refine PS ?_;refine nx J3 (CY (sr λ_ J6=>PS ?_));refine nx J6 (aj (ag (WK [] (aw rfl rfl ⟨congrArg Value.bool ?_,rfl⟩))));symm;rw[kJ,fD];intro h;rw[ay,decide_eq_true_iff,decide_eq_true_iff]at h;omega;refine PS ?_;refine nx J3 (CN (qx J2 (aa λ_ J7=>sr λ_ J8=>FA 2 eO e8 ?_)));refine tp (aP (vs:=ints v.heirs.toList) rfl ke rfl e8 rfl (RO 0) (dC v.heirs) (ViewT.sub_heirs v 0 rfl (by decide) (whole (dC v.heirs)))) ?_;refine PS ?_;refine nx J8 (av ?_)
 refine bz (α:=(Nat)) (λi=>i≤5∧∀(j:Nat) (h:j<5),j<i→Oi v v.heirs[j] j=true) (λi=>[(1,(.pointer (some ⟨b1,0,none⟩))),(19,(.agg (ints v.heirs.toList).toArray)),(20,(.int .i64 (((i:Nat):Int))))]) (λi=>[ak b1 (ints v.flat) 32]) (λi=>5-i) 0
     ⟨aO _,λj h hj=>absurd hj (by omega)⟩ SB
     (λ_ s=>s) (λi hinv=>?_)
 obtain⟨hi,ho⟩:=hinv;have hhi:=λh:i<5=>hh i h
 refine sr λ_ J9=>PS ?_
 refine aq ?_ ?_<;>intro h21;replace hhi:=hhi (by omega);refine nx J9 (aa λ_ J10=>CY (qx J10 (aa λ_ J11=>av (sr λ_ J12=>PS ?_))));refine tp (mM (cs:=ints v.heirs.toList) (v:=Value.int .i64 (v.heirs[i]'(by omega))) (r:=i) rfl ke Y3 rfl aR rfl rfl (by omega) (by omega) (by omega) (kN v.heirs (by omega))) ?_;refine P2 ?_;refine nx J12 (sr λ_ J13=>P2 ?_);refine aq ?_ ?_<;>intro h25;refine PS ?_;refine LW 0 eO bm ap ?_;refine PS ?_;refine tq (jC rfl rfl rfl (bY (by omega) (by omega))) ?_;refine CE qU (dR v ((v.heirs[i]'(by omega))-1)) ID ?_;refine bh ?_ ?_<;>intro h30;refine PS ?_;refine PS ?_;refine LW 0 eO bm ap ?_;refine PS ?_;refine CE qU (dR v ((i:Nat):Int)) ID ?_;refine bh ?_ ?_<;>intro h35;refine P2 ?_;refine nx J13 (CY (sr λ_ J14=>PS ?_));refine nx J14 (aj (aK (ag (ag (aK (ag (WK [] (aw rfl rfl ⟨congrArg Value.bool ?_,rfl⟩))))))));symm;rw[kJ,fD];intro h;rw[ay,decide_eq_true_iff,decide_eq_true_iff]at h;have h:=h.2 i (by omega);unfold Oi at h;rw[O4,decide_eq_true_iff,ay]at h;rw[h35]at h;exact h.elim h25 λq=>absurd q.2 (by decide)
 refine P2 ?_;refine nx J13 (CN (aV (ai (ae J11 (af (AD ?_))))));refine PS ?_;refine ax ?_
 exact aM ((i+1):(Nat)) ⟨by omega,λj h hj=>by
        by_cases q:j=i
        · subst q;unfold Oi;simp_all
        · exact ho j h (by omega)⟩ (by show 5- (i+1)<5-i;omega)
   SB
   (λ_ s=>s)
 refine PS ?_;refine PS ?_
 iterate 3 refine UT ?_
 refine P2 ?_;refine nx J13 (CY (sr λ_ J15=>PS ?_));refine nx J15 (aj (aK (ag (ag (aK (ag (WK [] (aw rfl rfl ⟨congrArg Value.bool ?_,rfl⟩))))))));symm;rw[kJ,fD];intro h;rw[ay,decide_eq_true_iff,decide_eq_true_iff]at h;have h:=h.2 i (by omega);unfold Oi at h;rw[O4,decide_eq_true_iff,ay]at h;rw[h30]at h;exact h.elim h25 λq=>absurd q.1 (by decide)
 refine PS ?_
 iterate 6 refine UF ?_
 refine TL.unmetU rfl rfl rfl rfl (lb rfl) (TL.unmetU rfl rfl rfl rfl (lb rfl) (TL.unmetU rfl rfl rfl rfl (lb rfl) (UF ?_)));refine PS ?_;refine nx J13 (CN (aV (ai (ae J11 (af (AD ?_))))));refine PS ?_;refine ax ?_
 exact aM ((i+1):(Nat)) ⟨by omega,λj h hj=>by
        by_cases q:j=i
        · subst q;unfold Oi;simp_all
        · exact ho j h (by omega)⟩ (by show 5- (i+1)<5-i;omega)
   SB
   (λ_ s=>s)
 refine nx J9 (aa λ_ J16=>CN (aX (aC (aC (bq (ae J7 (sr λ_ J17=>PS ?_)))))));refine nx J17 (aj (WK [] (aw rfl rfl ?_)));exact⟨congrArg Value.bool (by symm;rw[kJ,ay,decide_eq_true_iff,decide_eq_true_iff];exact⟨by omega,λj h=>ho j h (by omega)⟩),rfl⟩
theorem rQ(v:ViewT)(w:Int)(hh:Rng v):
 DT 61 #[(.agg (ints v.flat).toArray),(.int .i64 (w))] T0 [] (RI (.tuple #[.int .i64 ((jQ v w).getD 0), .bool (jQ v w).isSome]) []):=by
 refine BD 21 Tryz.func61 rfl rfl rfl λw0 F hF=>sr λ_ J1=>XY (ints v.flat) λb2=>?_
 refine P2 ?_;refine nx J1 (aa λ_ J2=>sr λ_ J3=>PS ?_);refine CE D4 (kg w) ID ?_;refine bh ?_ ?_<;>intro h7;have hm:0≤w∧w<5:=of_decide_eq_true h7;have hb:=hh w.toNat (by omega);refine PS ?_;refine P2 ?_;refine FA 2 eO e8 ?_;refine IX (2+w.toNat) ke aR ?_;refine LT 0 Y3 (.int .i64 ((v.heirs[w.toNat]'(by omega)))) ?_ (hc:=by exact ViewT.pt_heirs v (w.toNat) (by omega) (by omega) (kN v.heirs (by omega)));refine PS ?_;refine aq ?_ ?_<;>intro h14;refine PS ?_;refine nx J3 (CY (sr λ_ J4=>P2 ?_));refine nx J4 (aj (ag (WK [] (iu rfl rfl rfl ?_))));exact⟨by rw[jQ,dif_pos hm,if_pos h14];rfl,rfl⟩;refine PS ?_;refine nx J3 (CN (qx J2 (sr λ_ J5=>PS ?_)));refine FA 2 eO e8 ?_;refine IX (2+w.toNat) ke aR ?_;refine LT 0 Y3 (.int .i64 ((v.heirs[w.toNat]'(by omega)))) ?_ (hc:=by exact ViewT.pt_heirs v (w.toNat) (by omega) (by omega) (kN v.heirs (by omega)));refine tp (jC rfl rfl rfl (bY (by omega) (by omega))) ?_;refine P2 ?_;refine nx J5 (aj (WK [] (iu rfl rfl rfl ?_)));exact⟨by rw[jQ,dif_pos hm,if_neg h14];rfl,rfl⟩;refine PS ?_;refine PS ?_
 iterate 5 refine UT ?_
 refine PS ?_;refine nx J3 (CY (sr λ_ J6=>P2 ?_));refine nx J6 (aj (ag (WK [] (iu rfl rfl rfl ?_))));exact⟨by rw[jQ,dif_neg (of_decide_eq_false h7)];rfl,rfl⟩
theorem dG(v:ViewT)(c:ChangeT)(hh:Rng v):
    DT 90 #[(.agg (ints v.flat).toArray),(.agg (ints c.flat).toArray)] T0 [] (RI (.tuple #[.agg (ints (dW v c).1.flat).toArray, .int .i64 (dW v c).2]) []):=by
 refine BD 106 Tryz.func90 rfl rfl rfl λw0 F hF=>sr λ_ J1=>XY (ints v.flat) λb2=>?_
 refine XY (ints c.flat) λb3=>?_
 refine XZ tj (ints ViewT.zero.flat) λb4=>?_
 refine PS ?_;refine nx J1 (aa λ_ J2=>sr λ_ J3=>FA 1 n5 aR ?_);refine LU 1 Y3 (jh c rfl) ?_;refine CE D4 (kg c.who) ID ?_;refine bh ?_ ?_<;>intro h12;have hm1:0≤c.who∧c.who<5:=of_decide_eq_true h12;refine PS ?_;refine PS ?_;refine FA 2 n5 aR ?_;refine LU 1 Y3 (rZ c rfl) ?_;refine CE D4 (kg c.heir) ID ?_;refine bh ?_ ?_<;>intro h17;have hm2:0≤c.heir∧c.heir<5:=of_decide_eq_true h17;refine PS ?_;refine PS ?_;refine nx J3 (CN (qx J2 (aa λ_ J4=>sr λ_ J5=>FA 0 n5 aR ?_)));refine LU 1 Y3 (ChangeT.at_kind c rfl) ?_;refine nx J5 (av (sr λ_ J6=>PS ?_));refine aq ?_ ?_<;>intro h25;refine PS ?_;refine nx J6 (CY (aa λ_ J7=>sr λ_ J8=>LW 2 eO bm ap ?_));refine FA 1 n5 aR ?_;refine LU 1 Y3 (jh c rfl) ?_;refine CE MK (rQ v c.who hh) ID ?_;refine P3 ?_;refine bh ?_ ?_<;>intro h32;refine P2 ?_;refine nx J8 (sr λ_ J9=>P2 ?_)
 iterate 4 refine UT ?_
 refine PS ?_;refine nx J9 (CY (sr λ_ J10=>BV ((ints ViewT.zero.flat).toArray) ?_));refine SW 0 bm ap ?_;refine PS ?_;refine nx J10 (aj (ag (aK (ag (RT 0 [] eO bm (ap _) ?_)))));exact⟨by simp_all [dW],rfl⟩;refine P2 ?_;refine nx J8 (sr λ_ J11=>P2 ?_);refine LW 2 eO bm ap ?_;refine FA 1 n5 aR ?_;refine LU 1 Y3 (jh c rfl) ?_;refine CE qU (dR v c.who) ID ?_;refine bh ?_ ?_<;>intro h38;refine PS ?_;refine nx J11 (CY (sr λ_ J12=>BV ((ints ViewT.zero.flat).toArray) ?_));refine SW 0 bm ap ?_;refine PS ?_;refine nx J12 (aj (ag (aK (ag (RT 0 [] eO bm (ap _) ?_)))));exact⟨by simp_all [dW],rfl⟩;refine PS ?_;refine nx J11 (CN (qx J7 (D1 1 mixed ?_)));refine FD 0 1 eO aR ?_;refine FD 2 1 n5 aR ?_;refine LR 3 Y3 (jh c rfl) ?_;refine ta 4 rfl (zP (r:=(2^c.who.toNat)) rfl rfl rfl (by omega) (G5 hm1)) ?_;refine AL 1 ?_;refine LU 2 Y3 (iU v rfl) ?_;refine EN (ta 5 rfl (L2 (r:=(jp .i64 v.members (2^c.who.toNat))) rfl rfl rfl rfl) ?_);refine FD 6 1 eO aR ?_;refine AL 7 ?_;refine bF (i:=2) (ab rfl) rfl rfl rfl rfl rfl aR rfl rfl (LB (ap _)) (ViewT.set_members v rfl _) rfl (EN (DN (ai (ae J4 (sr λ_ J13=>FA 0 eO aR ?_)))));refine LT 2 Y3 (.int .i64 (v.epoch)) ?_ (hc:=by exact be _ rfl);refine tp (cN (r:=(IntKind.i64.wrap (v.epoch+1))) rfl rfl rfl rfl) ?_;refine FA 0 eO aR ?_;refine bF (i:=2) (ab rfl) rfl rfl rfl rfl rfl aR rfl rfl (LB (ap _)) (ViewT.set_epoch _ rfl _) rfl (nx J13 (sr λ_ J14=>LW 2 eO bm ap ?_));refine SW 0 bm ap ?_;refine PS ?_
 refine nx J14 (aj (RT 0 [] eO bm (ap _) ?_));exact⟨by simp_all [dW],rfl⟩;refine PS ?_;refine nx J6 (CN (sr λ_ J15=>PS ?_));refine aq ?_ ?_<;>intro h49;refine PS ?_;refine nx J15 (CY (aa λ_ J16=>sr λ_ J17=>LW 2 eO bm ap ?_));refine FA 1 n5 aR ?_;refine LU 1 Y3 (jh c rfl) ?_;refine CE qU (dR v c.who) ID ?_;refine bh ?_ ?_<;>intro h53;refine PS ?_;refine PS ?_;refine LW 2 eO bm ap ?_;refine FA 2 n5 aR ?_;refine LU 1 Y3 (rZ c rfl) ?_;refine CE qU (dR v c.heir) ID ?_;refine bh ?_ ?_<;>intro h59;refine PS ?_;refine P2 ?_;refine FA 2 n5 aR ?_;refine LU 1 Y3 (rZ c rfl) ?_;refine FA 1 n5 aR ?_;refine LU 1 Y3 (jh c rfl) ?_;refine PS ?_;refine aq ?_ ?_<;>intro h67;refine PS ?_;refine nx J17 (CY (sr λ_ J18=>BV ((ints ViewT.zero.flat).toArray) ?_));refine SW 0 bm ap ?_;refine PS ?_;refine nx J18 (aj (ag (aK (ag (RT 0 [] eO bm (ap _) ?_)))));exact⟨by simp_all [dW],rfl⟩;refine PS ?_;refine nx J17 (CN (qx J16 (aa λ_ J19=>D1 1 mixed ?_)));refine FD 0 1 eO aR ?_;refine FD 2 1 n5 aR ?_;refine LR 3 Y3 (jh c rfl) ?_;refine ta 4 rfl (zP (r:=(2^c.who.toNat)) rfl rfl rfl (by omega) (G5 hm1)) ?_;refine AL 1 ?_;refine LU 2 Y3 (iU v rfl) ?_;refine EN (ta 5 rfl (PV.andNot (r:=(np .i64 v.members (2^c.who.toNat))) rfl rfl rfl rfl) ?_);refine FD 6 1 eO aR ?_;refine AL 7 ?_;refine bF (i:=2) (ab rfl) rfl rfl rfl rfl rfl aR rfl rfl (LB (ap _)) (ViewT.set_members v rfl _) rfl (EN (DN (ae J19 (sr λ_ J20=>FA 2 eO e8 ?_))))
 refine tp (aP (vs:=ints v.heirs.toList) rfl ke rfl e8 rfl (RO 2) (dC v.heirs) (ViewT.sub_heirs (ViewT.mk v.epoch (np .i64 v.members (2^c.who.toNat)) v.heirs) 0 rfl (by decide) (whole (dC v.heirs)))) ?_;refine PS ?_;refine nx J20 (av ?_)
 refine bz (α:=(Nat)×(Vector Int 5)) (λ⟨i,hs⟩=>i≤5∧∀(j:Nat) (h:j<5),hs[j]=if j<i then vj c j v.heirs[j]else v.heirs[j]) (λ⟨i,hs⟩=>[(2,(.pointer (some ⟨b2,0,none⟩))),(3,(.pointer (some ⟨b3,0,none⟩))),(4,(.pointer (some ⟨b4,0,none⟩))),(5,(.int .i64 0)),(78,(.agg (ints v.heirs.toList).toArray)),(79,(.int .i64 (((i:Nat):Int))))]) (λ⟨i,hs⟩=>[ak b4 (ints ViewT.zero.flat) 32,ak b3 (ints c.flat) 61,ak b2 (ints (ViewT.mk v.epoch (np .i64 v.members (2^c.who.toNat)) hs).flat) 32]) (λ⟨i,hs⟩=>5-i) (0,v.heirs)
     ⟨aO _,λj h=>by rw[if_neg (by omega)]⟩ SB
     (λ_ s=>s) (λ⟨i,hs⟩ hinv=>?_)
 obtain⟨hi,ho⟩:=hinv;refine sr λ_ J21=>PS ?_
 refine aq ?_ ?_<;>intro h80;refine nx J21 (aa λ_ J22=>CY (qx J22 (aa λ_ J23=>av (sr λ_ J24=>PS ?_))));refine tp (mM (cs:=ints v.heirs.toList) (v:=Value.int .i64 (v.heirs[i]'(by omega))) (r:=i) rfl ke Y3 rfl aR rfl rfl (by omega) (by omega) (by omega) (kN v.heirs (by omega))) ?_;refine P2 ?_;refine nx J24 (sr λ_ J25=>PS ?_);refine FA 1 n5 aR ?_;refine LU 1 Y3 (jh c rfl) ?_;refine PS ?_;refine aq ?_ ?_<;>intro h86;refine PS ?_
 iterate 5 refine UT ?_
 refine PS ?_;refine nx J25 (CY (af (PS ?_)));refine FA 2 n5 aR ?_;refine LU 1 Y3 (rZ c rfl) ?_;refine AD ?_;refine FA 2 eO e8 ?_;refine IX (2+i) ke aR ?_;refine bF (i:=2) (ab rfl) rfl rfl rfl rfl rfl aR rfl rfl (LB (ap _)) (ViewT.st_heirs (ViewT.mk v.epoch (np .i64 v.members (2^c.who.toNat)) hs) i (by omega) (by omega) (Ac hs (by omega) _)) rfl (ax (ai (ae J23 (af (AD ?_)))));refine PS ?_;refine ax ?_
 exact aM ((i+1,hs.set i (c.heir+1) (by omega)):(Nat)×(Vector Int 5)) ⟨by omega,λj h=>by
        rw[Vector.getElem_set]
        by_cases q:j=i
        · subst q;rw[if_pos rfl,if_pos (by omega),vj,if_pos (by omega)]
        · rw[if_neg (by omega),ho j h]
          by_cases q2:j<i
          · rw[if_pos q2,if_pos (by omega)]
          · rw[if_neg q2,if_neg (by omega)]⟩ (by show 5- (i+1)<5-i;omega)
   SB
   (λ_ s=>s)
 refine P2 ?_;refine FA 1 n5 aR ?_;refine LU 1 Y3 (jh c rfl) ?_;refine tq (cN rfl rfl rfl (bY (by omega) (by omega))) ?_;refine PS ?_;refine aq ?_ ?_<;>intro h92;refine PS ?_;refine nx J25 (CY (af (PS ?_)));refine FA 2 n5 aR ?_;refine LU 1 Y3 (rZ c rfl) ?_;refine AD ?_;refine FA 2 eO e8 ?_;refine IX (2+i) ke aR ?_;refine bF (i:=2) (ab rfl) rfl rfl rfl rfl rfl aR rfl rfl (LB (ap _)) (ViewT.st_heirs (ViewT.mk v.epoch (np .i64 v.members (2^c.who.toNat)) hs) i (by omega) (by omega) (Ac hs (by omega) _)) rfl (ax (ai (ae J23 (af (AD ?_)))));refine PS ?_;refine ax ?_
 exact aM ((i+1,hs.set i (c.heir+1) (by omega)):(Nat)×(Vector Int 5)) ⟨by omega,λj h=>by
        rw[Vector.getElem_set]
        by_cases q:j=i
        · subst q;rw[if_pos rfl,if_pos (by omega),vj,if_pos (by omega)]
        · rw[if_neg (by omega),ho j h]
          by_cases q2:j<i
          · rw[if_pos q2,if_pos (by omega)]
          · rw[if_neg q2,if_neg (by omega)]⟩ (by show 5- (i+1)<5-i;omega)
   SB
   (λ_ s=>s)
 refine PS ?_;refine nx J25 (CN (aV (ai (ae J23 (af (AD ?_))))));refine PS ?_;refine ax ?_
 exact aM ((i+1,hs):(Nat)×(Vector Int 5)) ⟨by omega,λj h=>by
        rw[ho j h]
        by_cases q:j=i
        · subst q;rw[if_neg (by omega),if_pos (by omega),vj,if_neg (by omega)]
        · by_cases q2:j<i
          · rw[if_pos q2,if_pos (by omega)]
          · rw[if_neg q2,if_neg (by omega)]⟩ (by show 5- (i+1)<5-i;omega)
   SB
   (λ_ s=>s)
 refine nx J21 (aa λ_ J26=>CN (aX (aC (aC (bq (ai (ae J4 (sr λ_ J27=>FA 0 eO aR ?_))))))));refine LT 2 Y3 (.int .i64 (v.epoch)) ?_ (hc:=by exact be _ rfl);refine tp (cN (r:=(IntKind.i64.wrap (v.epoch+1))) rfl rfl rfl rfl) ?_;refine FA 0 eO aR ?_;refine bF (i:=2) (ab rfl) rfl rfl rfl rfl rfl aR rfl rfl (LB (ap _)) (ViewT.set_epoch _ rfl _) rfl (nx J27 (sr λ_ J28=>LW 2 eO bm ap ?_));refine SW 0 bm ap ?_;refine PS ?_;refine nx J28 (aj (RT 0 [] eO bm (ap _) ?_))
 have e:hs=sS v c:=by
   apply Vector.ext;intro j hj;rw[ho j hj,if_pos (by omega)];simp[sS]
 subst e;exact⟨by simp_all [dW],rfl⟩;refine PS ?_;refine P2 ?_
 iterate 5 refine UT ?_
 refine PS ?_;refine nx J17 (CY (sr λ_ J29=>BV ((ints ViewT.zero.flat).toArray) ?_));refine SW 0 bm ap ?_;refine PS ?_;refine nx J29 (aj (ag (aK (ag (RT 0 [] eO bm (ap _) ?_)))));exact⟨by simp_all [dW],rfl⟩;refine PS ?_;refine PS ?_
 iterate 5 refine UT ?_
 refine P2 ?_
 iterate 5 refine UT ?_
 refine PS ?_;refine nx J17 (CY (sr λ_ J30=>BV ((ints ViewT.zero.flat).toArray) ?_));refine SW 0 bm ap ?_;refine PS ?_;refine nx J30 (aj (ag (aK (ag (RT 0 [] eO bm (ap _) ?_)))));exact⟨by simp_all [dW],rfl⟩;refine PS ?_;refine nx J15 (CN (sr λ_ J31=>BV ((ints ViewT.zero.flat).toArray) ?_));refine SW 0 bm ap ?_;refine PS ?_;refine nx J31 (aj (aK (ag (RT 0 [] eO bm (ap _) ?_))));exact⟨by simp_all [dW],rfl⟩;refine PS ?_;refine PS ?_;refine nx J3 (CY (sr λ_ J32=>BV ((ints ViewT.zero.flat).toArray) ?_));refine SW 0 bm ap ?_;refine PS ?_;refine nx J32 (aj (ag (RT 0 [] eO bm (ap _) ?_)));exact⟨by simp_all [dW],rfl⟩;refine PS ?_;refine PS ?_
 iterate 4 refine UT ?_
 refine PS ?_;refine nx J3 (CY (sr λ_ J33=>BV ((ints ViewT.zero.flat).toArray) ?_));refine SW 0 bm ap ?_;refine PS ?_;refine nx J33 (aj (ag (RT 0 [] eO bm (ap _) ?_)));exact⟨by simp_all [dW],rfl⟩
end Go.Proofs.YtfocodjhmkokpaaGreatDoor
end

section
namespace Leg
open Go Codec Api
section
variable {P:Program} {w0:World} {F:Hl} {n:Nat} {ops:Array Oper} {Q:QQ} {D:List Deferred} {L:List (Nat×Value)} {H:List HP} {o:Oper} {l:List Oper} {d:Nat}
def ek(c cap:Nat)(vs:List Value)(s r:Nat):HP:=zb c (.chan cap vs.toArray false s r false)
theorem TL.makeChan{t e:TypeId}{dir:ChanDir}{x:Operand}{k bytes:Nat}(hw:Want n D ops o L)(ho:o.op= .makeChan t x)(hd:o.dst=some d)(hn:Nat.blt d n=true)(ht:P.underlying t=some (.chan dir e))(hi:(P.info? e).map (·.bytes)=some bytes)
 (hx:cL L x=some (.int .i64 ((k:Nat):Int))) (hb:bytes*k≤281474976710544) (hk:k≤9223372036854775807)
 (h: ∀c,TL P w0 F n ops Q l D ((d, .chan (some c))::L) (ek c k [] 0 0::H)):TL P w0 F n ops Q (o::l) D L H:=
 kV hw λa w f s m=>by
  unfold Oper.wp;cases hi':P.info? e with
  |none=>rw[hi']at hi;cases hi
  |some i=>
   rw[hi']at hi;have hbb:i.bytes=bytes:=by simpa using hi
   have a1: ¬(((k:Nat):Int)<0):=by omega
   have a2: ¬(9223372036854775807< ((k:Nat):Int)):=by omega
   have a3: ¬(281474976710544< (i.bytes:Int)* ((k:Nat):Int)):=by
    have:(i.bytes:Int)* ((k:Nat):Int)≤281474976710544:=by rw[hbb,←Int.natCast_mul];exact Int.ofNat_le.2 hb
    omega
   have hc:(Instr.makeChan t (.int .i64 ((k:Nat):Int))).run P w= .ok (.chan (some w.heap.size)) (w.alloc (.chan k #[] false 0 0 false)):=by
    simp[Instr.makeChan,run_underlying ht,typeInfo,hi',asInt,asIntOf,IntKind.max,IntKind.signed,IntKind.bits,a1,a2,a3]
   have r:(execOp a.eval o).run P w= .ok (.value (.chan (some w.heap.size))) (w.alloc (.chan k #[] false 0 0 false)):=by
    simp[execOp,ho,f.eval hx,Sem.run_bind,hc]
   rw[r,Oper.upon_value,hd];exact h _ _ _ (f.put (lb hn) _) (s.trans ⟨rfl,rfl,rfl,by simp⟩) ((m.alloc _).mono λh s=>cM s (λ_ x=>x) λ_ x=>x)
end
def EF{α:Type}(f:α→List Int)(us:List Value)(x:α)(_:Hl):Prop:=us=ints (f x)
theorem EF.more{α:Type}{f:α→List Int}(us:List Value)(x:α)(F g:Hl)(h:EF f us x F)(_:Dj g F):EF f us x (jn g F):=h
section
variable {α:Type} {f:α→List Int} {m:Nat}
theorem Er(hf: ∀x,(f x).length=m)(l:List α){i:Nat}(hi:i<l.length):((ints (l.flatMap f)).drop (i*m)).take m=ints (f l[i]):=by
 rw[xf];have hl:=Ab hf l;have:=hl.sub (s:=ints (f l[i])) i 0 m (by simp[hi]) (by simp[hi]) (tI m l.length i (by omega)) (cV (bi m));rw[L5]at this;rw[this,ba,az (by rw[ints_length,hf];exact aH _)]
theorem yF(hf: ∀x,(f x).length=m)(l:List α):(ints (l.flatMap f)).length=l.length*m:=by
 rw[ints_length]
 induction l with
 |nil=>simp
 |cons x l ih=>rw[cQ,ac,ih,hf,ah,fC];omega
end
section
variable {P:Program} {w0:World} {F:Hl} {n:Nat} {ops:Array Oper} {Q:QQ} {D:List Deferred} {L:List (Nat×Value)} {H:List HP} {o:Oper} {l:List Oper} {S:World→Prop}
end
def Arnd{α:Type}(cs c:α→List Value)(off:Nat):Prop:=∃A B,A.length=off∧∀x,cs x=A++(c x++B)
section
variable {α:Type} {cs c:α→List Value} {off o j k:Nat} {x x':α}
theorem Arnd.le(h:Arnd cs c off)(x:α):off+(c x).length≤(cs x).length:=by
 obtain⟨A,B,h1,h2⟩:=h;rw[h2,ac,ac];omega
theorem Arnd.at(h:Arnd cs c off)(ho:o=off+j)(hj:j< (c x).length){r:Option Value}(hr:(c x)[j]?=r):(cs x)[o]?=r:=by
 obtain⟨A,B,h1,h2⟩:=h;subst ho;subst h1;rw[h2,List.getElem?_append_right (by omega),cx,List.getElem?_append_left hj,hr]
theorem Arnd.sub(h:Arnd cs c off)(ho:o=off+j)(hj:j+k≤(c x).length){r:List Value}(hr:((c x).drop j).take k=r):((cs x).drop o).take k=r:=by
 obtain⟨A,B,h1,h2⟩:=h;subst ho;subst h1;rw[h2,←jg,Fl,ii (by omega),co (by rw[dP];omega),hr]
abbrev Q4:= @Arnd.sub
theorem Arnd.wr(h:Arnd cs c off){vs:List Value}(ho:o=off+j)(hj:j+vs.length≤(c x).length)(hw:Leg.wr (c x) j vs=c x'):Leg.wr (cs x) o vs=cs x':=by
 obtain⟨A,B,h1,h2⟩:=h;subst ho;subst h1;rw[h2,h2,eE (by omega),cx,iB hj,hw]
theorem Arnd.set(h:Arnd cs c off){v:Value}(ho:o=off+j)(hj:j< (c x).length)(hw:(c x).set j v=c x'):(cs x).set o v=cs x':=by
 obtain⟨A,B,h1,h2⟩:=h;subst ho;subst h1;rw[h2,h2,gT _ _ (by omega),cx,ry _ _ hj,hw]
theorem Arnd.whole:Arnd c c 0:=⟨[],[],rfl,λx=>by simp⟩
abbrev Q3:= @Arnd.whole
end
end Leg
namespace Api
open Go Leg Codec
def pi(l:List Bool):List Value:=l.map .bool
theorem Nq{n:Nat}(v:Vector Bool n){i:Nat}(h:i<n):(pi v.toList)[i]?=some (.bool v[i]):=by simp[pi,h]
theorem Pg{n:Nat}(v:Vector Bool n){i:Nat}(h:i<n)(x:Bool):(pi v.toList).set i (.bool x)=pi (v.set i x h).toList:=by rw[sD];simp[pi,zV]
theorem Bl(v:Vector RowT 5):(ints (v.toList.flatMap RowT.flat)).length=870:=by rw[yF dO];simp
theorem Mh(v:Vector CellT 5):(ints (v.toList.flatMap CellT.flat)).length=35:=by rw[yF bD];simp
structure AccT where
 epoch:Int
 vow:BallotT
 had:BallotT
 change:ChangeT
def AccT.zero:AccT:=⟨0, .zero, .zero, .zero⟩
def AccT.flat(m:AccT):List Int:=([m.epoch])++(m.vow.flat)++(m.had.flat)++(m.change.flat)
structure SaidT where
 to':Int
 msg:MsgT
structure BookT where
 rows:Vector RowT 5
def BookT.zero:BookT:=⟨#v[RowT.zero,RowT.zero,RowT.zero,RowT.zero,RowT.zero]⟩
def BookT.flat(m:BookT):List Int:=(m.rows.toList.flatMap RowT.flat)
structure MirT where
 rows:Vector RowT 5
 sealed:Vector Bool 5
def MirT.zero:MirT:=⟨#v[RowT.zero,RowT.zero,RowT.zero,RowT.zero,RowT.zero], #v[false,false,false,false,false]⟩
def MirT.cells(m:MirT):List Value:=[ints (m.rows.toList.flatMap RowT.flat),pi m.sealed.toList].flatten
structure VoteT where
 view:ViewT
 ballot:BallotT
 change:ChangeT
 best:BallotT
 vowed:Int
 took:Int
 putting:Bool
def VoteT.zero:VoteT:=⟨.zero, .zero, .zero, .zero,0,0,false⟩
def VoteT.cells(m:VoteT):List Value:=[ints m.view.flat,ints m.ballot.flat,ints m.change.flat,ints m.best.flat,[Value.int .i64 m.vowed],[Value.int .i64 m.took],[Value.bool m.putting]].flatten
structure RepT where
 id:Int
 log:Value
 view:ViewT
 own:RowT
 mirror:MirT
 acc:AccT
 round:Int
 vote:Value
 book:BookT
 busy:Bool
 kept:Int
 waits:Int
 ops:Int
 replies:Value
 told:Vector Int 5
 last:Vector RowT 5
def RepT.cells(m:RepT):List Value:=[[Value.int .i64 m.id],[m.log],ints m.view.flat,ints m.own.flat,MirT.cells m.mirror,ints m.acc.flat,[Value.int .i64 m.round],[m.vote],ints m.book.flat,[Value.bool m.busy],[Value.int .i64 m.kept],[Value.int .i64 m.waits],[Value.int .i64 m.ops],[m.replies],ints m.told.toList,ints (m.last.toList.flatMap RowT.flat)].flatten
theorem AccT.sl(m:AccT):SL [[Value.int .i64 m.epoch],ints m.vow.flat,ints m.had.flat,ints m.change.flat] [1,2,2,3]:=(.cons rfl (.cons (au _) (.cons (au _) (.cons (aN _) .nil))))
abbrev Fv:= @AccT.sl
abbrev AccT.sg(m:AccT):List (List Value):=[[Value.int .i64 m.epoch],ints m.vow.flat,ints m.had.flat,ints m.change.flat]
theorem AccT.eq(m:AccT):ints m.flat=[[Value.int .i64 m.epoch],ints m.vow.flat,ints m.had.flat,ints m.change.flat].flatten:=by simp[AccT.flat,ints]
abbrev po:= @AccT.eq
theorem AccT.len(m:AccT):(ints m.flat).length=8:=by rw[po,(Fv m).len];rfl
abbrev bf:= @AccT.len
theorem AccT.at_epoch(m:AccT){o:Nat}(ho:o=0):(ints m.flat)[o]?=some (Value.int .i64 m.epoch):=by subst ho;rw[po];exact(Fv m).at (off:=0) 0 0 rfl rfl (by simp) (by decide)
theorem AccT.sub_vow(m:AccT){o k:Nat}(j:Nat)(ho:o=1+j)(h:j+k≤2){r:List Value}(hr:((ints m.vow.flat).drop j).take k=r):((ints m.flat).drop o).take k=r:=by subst ho;rw[←hr,po];exact(Fv m).sub (off:=1) 1 j k rfl rfl (by simp) h
abbrev Sz:= @AccT.sub_vow
theorem AccT.wr_vow_(m:AccT){o:Nat}(j:Nat){vs:List Value}{u':BallotT}(ho:o=1+j)(h:j+vs.length≤2)(hw:wr (ints m.vow.flat) j vs=ints u'.flat):wr (ints m.flat) o vs=ints ({m with vow:=u'}:AccT).flat:=by subst ho;rw[po,po];exact(Fv m).putIn (off:=1) 1 j vs rfl rfl (by simp) h hw
abbrev Sy:= @AccT.wr_vow_
theorem AccT.sp_vow(m:AccT):((ints m.flat).drop 1).take 2=ints m.vow.flat:=Sz m 0 rfl (by decide) (whole ((au _):(ints m.vow.flat).length=2))
theorem AccT.wp_vow(m:AccT)(u:BallotT):wr (ints m.flat) 1 (ints u.flat)=ints ({m with vow:=u}:AccT).flat:=Sy m 0 rfl (by rw[bi];exact cV ((au _):(ints u.flat).length=2)) (cC (Eq.trans ((au _):(ints m.vow.flat).length=2) (Eq.symm ((au _):(ints u.flat).length=2))))
theorem AccT.sub_had(m:AccT){o k:Nat}(j:Nat)(ho:o=3+j)(h:j+k≤2){r:List Value}(hr:((ints m.had.flat).drop j).take k=r):((ints m.flat).drop o).take k=r:=by subst ho;rw[←hr,po];exact(Fv m).sub (off:=3) 2 j k rfl rfl (by simp) h
theorem AccT.wr_had_(m:AccT){o:Nat}(j:Nat){vs:List Value}{u':BallotT}(ho:o=3+j)(h:j+vs.length≤2)(hw:wr (ints m.had.flat) j vs=ints u'.flat):wr (ints m.flat) o vs=ints ({m with had:=u'}:AccT).flat:=by subst ho;rw[po,po];exact(Fv m).putIn (off:=3) 2 j vs rfl rfl (by simp) h hw
theorem AccT.sp_had(m:AccT):((ints m.flat).drop 3).take 2=ints m.had.flat:=AccT.sub_had m 0 rfl (by decide) (whole ((au _):(ints m.had.flat).length=2))
theorem AccT.wp_had(m:AccT)(u:BallotT):wr (ints m.flat) 3 (ints u.flat)=ints ({m with had:=u}:AccT).flat:=AccT.wr_had_ m 0 rfl (by rw[bi];exact cV ((au _):(ints u.flat).length=2)) (cC (Eq.trans ((au _):(ints m.had.flat).length=2) (Eq.symm ((au _):(ints u.flat).length=2))))
theorem AccT.sub_change(m:AccT){o k:Nat}(j:Nat)(ho:o=5+j)(h:j+k≤3){r:List Value}(hr:((ints m.change.flat).drop j).take k=r):((ints m.flat).drop o).take k=r:=by subst ho;rw[←hr,po];exact(Fv m).sub (off:=5) 3 j k rfl rfl (by simp) h
theorem AccT.wr_change_(m:AccT){o:Nat}(j:Nat){vs:List Value}{u':ChangeT}(ho:o=5+j)(h:j+vs.length≤3)(hw:wr (ints m.change.flat) j vs=ints u'.flat):wr (ints m.flat) o vs=ints ({m with change:=u'}:AccT).flat:=by subst ho;rw[po,po];exact(Fv m).putIn (off:=5) 3 j vs rfl rfl (by simp) h hw
theorem AccT.sp_change(m:AccT):((ints m.flat).drop 5).take 3=ints m.change.flat:=AccT.sub_change m 0 rfl (by decide) (whole ((aN _):(ints m.change.flat).length=3))
theorem AccT.wp_change(m:AccT)(u:ChangeT):wr (ints m.flat) 5 (ints u.flat)=ints ({m with change:=u}:AccT).flat:=AccT.wr_change_ m 0 rfl (by rw[bi];exact cV ((aN _):(ints u.flat).length=3)) (cC (Eq.trans ((aN _):(ints m.change.flat).length=3) (Eq.symm ((aN _):(ints u.flat).length=3))))
abbrev SaidT.sg(m:SaidT):List (List Value):=[[Value.int .i64 m.to'],ints m.msg.flat]
theorem BookT.sl(m:BookT):SL [ints (m.rows.toList.flatMap RowT.flat)] [870]:=(.cons (Bl _) .nil)
abbrev BookT.sg(m:BookT):List (List Value):=[ints (m.rows.toList.flatMap RowT.flat)]
theorem BookT.eq(m:BookT):ints m.flat=[ints (m.rows.toList.flatMap RowT.flat)].flatten:=by simp[BookT.flat,ints]
abbrev Q1:= @BookT.eq
theorem BookT.len(m:BookT):(ints m.flat).length=870:=by rw[Q1,(BookT.sl m).len];rfl
abbrev y9:= @BookT.len
theorem BookT.pt_rows(m:BookT){o:Nat}(j:Nat)(ho:o=0+j)(h:j<870){r:Option Value}(hr:(ints (m.rows.toList.flatMap RowT.flat))[j]?=r):(ints m.flat)[o]?=r:=by subst ho;rw[←hr,Q1];exact(BookT.sl m).at (off:=0) 0 j rfl rfl (by simp) h
theorem BookT.sub_rows(m:BookT){o k:Nat}(j:Nat)(ho:o=0+j)(h:j+k≤870){r:List Value}(hr:((ints (m.rows.toList.flatMap RowT.flat)).drop j).take k=r):((ints m.flat).drop o).take k=r:=by subst ho;rw[←hr,Q1];exact(BookT.sl m).sub (off:=0) 0 j k rfl rfl (by simp) h
abbrev Q0:= @BookT.sub_rows
theorem BookT.wr_rows_(m:BookT){o:Nat}(j:Nat){vs:List Value}{u':Vector RowT 5}(ho:o=0+j)(h:j+vs.length≤870)(hw:wr (ints (m.rows.toList.flatMap RowT.flat)) j vs=ints (u'.toList.flatMap RowT.flat)):wr (ints m.flat) o vs=ints ({m with rows:=u'}:BookT).flat:=by subst ho;rw[Q1,Q1];exact(BookT.sl m).putIn (off:=0) 0 j vs rfl rfl (by simp) h hw
theorem MirT.sl(m:MirT):SL [ints (m.rows.toList.flatMap RowT.flat),pi m.sealed.toList] [870,5]:=(.cons (Bl _) (.cons (by simp[pi]) .nil))
abbrev Pa:= @MirT.sl
abbrev MirT.sg(m:MirT):List (List Value):=[ints (m.rows.toList.flatMap RowT.flat),pi m.sealed.toList]
theorem MirT.eq(m:MirT):MirT.cells m=[ints (m.rows.toList.flatMap RowT.flat),pi m.sealed.toList].flatten:=rfl
abbrev Fs:= @MirT.eq
theorem MirT.len(m:MirT):(MirT.cells m).length=875:=by rw[Fs,(Pa m).len];rfl
abbrev ru:= @MirT.len
theorem MirT.pt_rows(m:MirT){o:Nat}(j:Nat)(ho:o=0+j)(h:j<870){r:Option Value}(hr:(ints (m.rows.toList.flatMap RowT.flat))[j]?=r):(MirT.cells m)[o]?=r:=by subst ho;rw[←hr,Fs];exact(Pa m).at (off:=0) 0 j rfl rfl (by simp) h
theorem MirT.sub_rows(m:MirT){o k:Nat}(j:Nat)(ho:o=0+j)(h:j+k≤870){r:List Value}(hr:((ints (m.rows.toList.flatMap RowT.flat)).drop j).take k=r):((MirT.cells m).drop o).take k=r:=by subst ho;rw[←hr,Fs];exact(Pa m).sub (off:=0) 0 j k rfl rfl (by simp) h
theorem MirT.wr_rows_(m:MirT){o:Nat}(j:Nat){vs:List Value}{u':Vector RowT 5}(ho:o=0+j)(h:j+vs.length≤870)(hw:wr (ints (m.rows.toList.flatMap RowT.flat)) j vs=ints (u'.toList.flatMap RowT.flat)):wr (MirT.cells m) o vs=MirT.cells ({m with rows:=u'}:MirT):=by subst ho;rw[Fs,Fs];exact(Pa m).putIn (off:=0) 0 j vs rfl rfl (by simp) h hw
theorem MirT.pt_sealed(m:MirT){o:Nat}(j:Nat)(ho:o=870+j)(h:j<5){r:Option Value}(hr:(pi m.sealed.toList)[j]?=r):(MirT.cells m)[o]?=r:=by subst ho;rw[←hr,Fs];exact(Pa m).at (off:=870) 1 j rfl rfl (by simp) h
theorem MirT.st_sealed(m:MirT){o:Nat}(j:Nat){v:Value}{u':Vector Bool 5}(ho:o=870+j)(h:j<5)(hw:(pi m.sealed.toList).set j v=pi u'.toList):(MirT.cells m).set o v=MirT.cells ({m with sealed:=u'}:MirT):=by subst ho;rw[Fs,Fs];exact((Pa m).set (off:=870) 1 j v rfl rfl (by simp) h).trans (by rw[hw];rfl)
theorem VoteT.sl(m:VoteT):SL [ints m.view.flat,ints m.ballot.flat,ints m.change.flat,ints m.best.flat,[Value.int .i64 m.vowed],[Value.int .i64 m.took],[Value.bool m.putting]] [7,2,3,2,1,1,1]:=(.cons (ap _) (.cons (au _) (.cons (aN _) (.cons (au _) (.cons rfl (.cons rfl (.cons rfl .nil)))))))
abbrev ky:= @VoteT.sl
abbrev VoteT.sg(m:VoteT):List (List Value):=[ints m.view.flat,ints m.ballot.flat,ints m.change.flat,ints m.best.flat,[Value.int .i64 m.vowed],[Value.int .i64 m.took],[Value.bool m.putting]]
theorem VoteT.eq(m:VoteT):VoteT.cells m=[ints m.view.flat,ints m.ballot.flat,ints m.change.flat,ints m.best.flat,[Value.int .i64 m.vowed],[Value.int .i64 m.took],[Value.bool m.putting]].flatten:=rfl
abbrev fM:= @VoteT.eq
theorem VoteT.len(m:VoteT):(VoteT.cells m).length=17:=by rw[fM,(ky m).len];rfl
abbrev ot:= @VoteT.len
theorem VoteT.sub_view(m:VoteT){o k:Nat}(j:Nat)(ho:o=0+j)(h:j+k≤7){r:List Value}(hr:((ints m.view.flat).drop j).take k=r):((VoteT.cells m).drop o).take k=r:=by subst ho;rw[←hr,fM];exact(ky m).sub (off:=0) 0 j k rfl rfl (by simp) h
abbrev Ff:= @VoteT.sub_view
theorem VoteT.wr_view_(m:VoteT){o:Nat}(j:Nat){vs:List Value}{u':ViewT}(ho:o=0+j)(h:j+vs.length≤7)(hw:wr (ints m.view.flat) j vs=ints u'.flat):wr (VoteT.cells m) o vs=VoteT.cells ({m with view:=u'}:VoteT):=by subst ho;rw[fM,fM];exact(ky m).putIn (off:=0) 0 j vs rfl rfl (by simp) h hw
theorem VoteT.sp_view(m:VoteT):((VoteT.cells m).drop 0).take 7=ints m.view.flat:=Ff m 0 rfl (by decide) (whole ((ap _):(ints m.view.flat).length=7))
abbrev qq:= @VoteT.sp_view
theorem VoteT.wp_view(m:VoteT)(u:ViewT):wr (VoteT.cells m) 0 (ints u.flat)=VoteT.cells ({m with view:=u}:VoteT):=VoteT.wr_view_ m 0 rfl (by rw[bi];exact cV ((ap _):(ints u.flat).length=7)) (cC (Eq.trans ((ap _):(ints m.view.flat).length=7) (Eq.symm ((ap _):(ints u.flat).length=7))))
theorem VoteT.sub_ballot(m:VoteT){o k:Nat}(j:Nat)(ho:o=7+j)(h:j+k≤2){r:List Value}(hr:((ints m.ballot.flat).drop j).take k=r):((VoteT.cells m).drop o).take k=r:=by subst ho;rw[←hr,fM];exact(ky m).sub (off:=7) 1 j k rfl rfl (by simp) h
abbrev Nk:= @VoteT.sub_ballot
theorem VoteT.wr_ballot_(m:VoteT){o:Nat}(j:Nat){vs:List Value}{u':BallotT}(ho:o=7+j)(h:j+vs.length≤2)(hw:wr (ints m.ballot.flat) j vs=ints u'.flat):wr (VoteT.cells m) o vs=VoteT.cells ({m with ballot:=u'}:VoteT):=by subst ho;rw[fM,fM];exact(ky m).putIn (off:=7) 1 j vs rfl rfl (by simp) h hw
theorem VoteT.sp_ballot(m:VoteT):((VoteT.cells m).drop 7).take 2=ints m.ballot.flat:=Nk m 0 rfl (by decide) (whole ((au _):(ints m.ballot.flat).length=2))
theorem VoteT.wp_ballot(m:VoteT)(u:BallotT):wr (VoteT.cells m) 7 (ints u.flat)=VoteT.cells ({m with ballot:=u}:VoteT):=VoteT.wr_ballot_ m 0 rfl (by rw[bi];exact cV ((au _):(ints u.flat).length=2)) (cC (Eq.trans ((au _):(ints m.ballot.flat).length=2) (Eq.symm ((au _):(ints u.flat).length=2))))
theorem VoteT.sub_change(m:VoteT){o k:Nat}(j:Nat)(ho:o=9+j)(h:j+k≤3){r:List Value}(hr:((ints m.change.flat).drop j).take k=r):((VoteT.cells m).drop o).take k=r:=by subst ho;rw[←hr,fM];exact(ky m).sub (off:=9) 2 j k rfl rfl (by simp) h
theorem VoteT.wr_change_(m:VoteT){o:Nat}(j:Nat){vs:List Value}{u':ChangeT}(ho:o=9+j)(h:j+vs.length≤3)(hw:wr (ints m.change.flat) j vs=ints u'.flat):wr (VoteT.cells m) o vs=VoteT.cells ({m with change:=u'}:VoteT):=by subst ho;rw[fM,fM];exact(ky m).putIn (off:=9) 2 j vs rfl rfl (by simp) h hw
theorem VoteT.sp_change(m:VoteT):((VoteT.cells m).drop 9).take 3=ints m.change.flat:=VoteT.sub_change m 0 rfl (by decide) (whole ((aN _):(ints m.change.flat).length=3))
theorem VoteT.wp_change(m:VoteT)(u:ChangeT):wr (VoteT.cells m) 9 (ints u.flat)=VoteT.cells ({m with change:=u}:VoteT):=VoteT.wr_change_ m 0 rfl (by rw[bi];exact cV ((aN _):(ints u.flat).length=3)) (cC (Eq.trans ((aN _):(ints m.change.flat).length=3) (Eq.symm ((aN _):(ints u.flat).length=3))))
theorem VoteT.sub_best(m:VoteT){o k:Nat}(j:Nat)(ho:o=12+j)(h:j+k≤2){r:List Value}(hr:((ints m.best.flat).drop j).take k=r):((VoteT.cells m).drop o).take k=r:=by subst ho;rw[←hr,fM];exact(ky m).sub (off:=12) 3 j k rfl rfl (by simp) h
theorem VoteT.wr_best_(m:VoteT){o:Nat}(j:Nat){vs:List Value}{u':BallotT}(ho:o=12+j)(h:j+vs.length≤2)(hw:wr (ints m.best.flat) j vs=ints u'.flat):wr (VoteT.cells m) o vs=VoteT.cells ({m with best:=u'}:VoteT):=by subst ho;rw[fM,fM];exact(ky m).putIn (off:=12) 3 j vs rfl rfl (by simp) h hw
theorem VoteT.sp_best(m:VoteT):((VoteT.cells m).drop 12).take 2=ints m.best.flat:=VoteT.sub_best m 0 rfl (by decide) (whole ((au _):(ints m.best.flat).length=2))
theorem VoteT.wp_best(m:VoteT)(u:BallotT):wr (VoteT.cells m) 12 (ints u.flat)=VoteT.cells ({m with best:=u}:VoteT):=VoteT.wr_best_ m 0 rfl (by rw[bi];exact cV ((au _):(ints u.flat).length=2)) (cC (Eq.trans ((au _):(ints m.best.flat).length=2) (Eq.symm ((au _):(ints u.flat).length=2))))
theorem VoteT.at_vowed(m:VoteT){o:Nat}(ho:o=14):(VoteT.cells m)[o]?=some (Value.int .i64 m.vowed):=by subst ho;rw[fM];exact(ky m).at (off:=14) 4 0 rfl rfl (by simp) (by decide)
abbrev mw:= @VoteT.at_vowed
theorem VoteT.set_vowed(m:VoteT){o:Nat}(ho:o=14)(x:Int):(VoteT.cells m).set o (Value.int .i64 x)=VoteT.cells ({m with vowed:=x}:VoteT):=by subst ho;rw[fM,fM];exact(ky m).set (off:=14) 4 0 _ rfl rfl (by simp) (by decide)
theorem VoteT.at_took(m:VoteT){o:Nat}(ho:o=15):(VoteT.cells m)[o]?=some (Value.int .i64 m.took):=by subst ho;rw[fM];exact(ky m).at (off:=15) 5 0 rfl rfl (by simp) (by decide)
theorem VoteT.set_took(m:VoteT){o:Nat}(ho:o=15)(x:Int):(VoteT.cells m).set o (Value.int .i64 x)=VoteT.cells ({m with took:=x}:VoteT):=by subst ho;rw[fM,fM];exact(ky m).set (off:=15) 5 0 _ rfl rfl (by simp) (by decide)
theorem VoteT.at_putting(m:VoteT){o:Nat}(ho:o=16):(VoteT.cells m)[o]?=some (Value.bool m.putting):=by subst ho;rw[fM];exact(ky m).at (off:=16) 6 0 rfl rfl (by simp) (by decide)
abbrev mK:= @VoteT.at_putting
theorem VoteT.set_putting(m:VoteT){o:Nat}(ho:o=16)(x:Bool):(VoteT.cells m).set o (Value.bool x)=VoteT.cells ({m with putting:=x}:VoteT):=by subst ho;rw[fM,fM];exact(ky m).set (off:=16) 6 0 _ rfl rfl (by simp) (by decide)
abbrev lR:= @VoteT.set_putting
theorem RepT.sl(m:RepT):SL [[Value.int .i64 m.id],[m.log],ints m.view.flat,ints m.own.flat,MirT.cells m.mirror,ints m.acc.flat,[Value.int .i64 m.round],[m.vote],ints m.book.flat,[Value.bool m.busy],[Value.int .i64 m.kept],[Value.int .i64 m.waits],[Value.int .i64 m.ops],[m.replies],ints m.told.toList,ints (m.last.toList.flatMap RowT.flat)] [1,1,7,174,875,8,1,1,870,1,1,1,1,1,5,870]:=(.cons rfl (.cons rfl (.cons (ap _) (.cons (am _) (.cons (ru _) (.cons (bf _) (.cons rfl (.cons rfl (.cons (y9 _) (.cons rfl (.cons rfl (.cons rfl (.cons rfl (.cons rfl (.cons (by simp[ints]) (.cons (Bl _) .nil))))))))))))))))
abbrev eQ:= @RepT.sl
abbrev RepT.sg(m:RepT):List (List Value):=[[Value.int .i64 m.id],[m.log],ints m.view.flat,ints m.own.flat,MirT.cells m.mirror,ints m.acc.flat,[Value.int .i64 m.round],[m.vote],ints m.book.flat,[Value.bool m.busy],[Value.int .i64 m.kept],[Value.int .i64 m.waits],[Value.int .i64 m.ops],[m.replies],ints m.told.toList,ints (m.last.toList.flatMap RowT.flat)]
theorem RepT.eq(m:RepT):RepT.cells m=[[Value.int .i64 m.id],[m.log],ints m.view.flat,ints m.own.flat,MirT.cells m.mirror,ints m.acc.flat,[Value.int .i64 m.round],[m.vote],ints m.book.flat,[Value.bool m.busy],[Value.int .i64 m.kept],[Value.int .i64 m.waits],[Value.int .i64 m.ops],[m.replies],ints m.told.toList,ints (m.last.toList.flatMap RowT.flat)].flatten:=rfl
abbrev eG:= @RepT.eq
theorem RepT.len(m:RepT):(RepT.cells m).length=2818:=by rw[eG,(eQ m).len];rfl
abbrev da:= @RepT.len
theorem RepT.at_id(m:RepT){o:Nat}(ho:o=0):(RepT.cells m)[o]?=some (Value.int .i64 m.id):=by subst ho;rw[eG];exact(eQ m).at (off:=0) 0 0 rfl rfl (by simp) (by decide)
abbrev cR:= @RepT.at_id
theorem RepT.at_log(m:RepT){o:Nat}(ho:o=1):(RepT.cells m)[o]?=some (m.log):=by subst ho;rw[eG];exact(eQ m).at (off:=1) 1 0 rfl rfl (by simp) (by decide)
theorem RepT.pt_view(m:RepT){o:Nat}(j:Nat)(ho:o=2+j)(h:j<7){r:Option Value}(hr:(ints m.view.flat)[j]?=r):(RepT.cells m)[o]?=r:=by subst ho;rw[←hr,eG];exact(eQ m).at (off:=2) 2 j rfl rfl (by simp) h
abbrev cr:= @RepT.pt_view
theorem RepT.sub_view(m:RepT){o k:Nat}(j:Nat)(ho:o=2+j)(h:j+k≤7){r:List Value}(hr:((ints m.view.flat).drop j).take k=r):((RepT.cells m).drop o).take k=r:=by subst ho;rw[←hr,eG];exact(eQ m).sub (off:=2) 2 j k rfl rfl (by simp) h
abbrev gn:= @RepT.sub_view
theorem RepT.wr_view_(m:RepT){o:Nat}(j:Nat){vs:List Value}{u':ViewT}(ho:o=2+j)(h:j+vs.length≤7)(hw:wr (ints m.view.flat) j vs=ints u'.flat):wr (RepT.cells m) o vs=RepT.cells ({m with view:=u'}:RepT):=by subst ho;rw[eG];refine((eQ m).putIn (off:=2) 2 j vs rfl rfl (by simp) h hw).trans ?_;simp only[RepT.cells,bZ,ck]
abbrev R2:= @RepT.wr_view_
theorem RepT.sp_view(m:RepT):((RepT.cells m).drop 2).take 7=ints m.view.flat:=gn m 0 rfl (by decide) (whole ((ap _):(ints m.view.flat).length=7))
abbrev c9:= @RepT.sp_view
theorem RepT.wp_view(m:RepT)(u:ViewT):wr (RepT.cells m) 2 (ints u.flat)=RepT.cells ({m with view:=u}:RepT):=R2 m 0 rfl (by rw[bi];exact cV ((ap _):(ints u.flat).length=7)) (cC (Eq.trans ((ap _):(ints m.view.flat).length=7) (Eq.symm ((ap _):(ints u.flat).length=7))))
theorem RepT.pt_own(m:RepT){o:Nat}(j:Nat)(ho:o=9+j)(h:j<174){r:Option Value}(hr:(ints m.own.flat)[j]?=r):(RepT.cells m)[o]?=r:=by subst ho;rw[←hr,eG];exact(eQ m).at (off:=9) 3 j rfl rfl (by simp) h
theorem RepT.sub_own(m:RepT){o k:Nat}(j:Nat)(ho:o=9+j)(h:j+k≤174){r:List Value}(hr:((ints m.own.flat).drop j).take k=r):((RepT.cells m).drop o).take k=r:=by subst ho;rw[←hr,eG];exact(eQ m).sub (off:=9) 3 j k rfl rfl (by simp) h
abbrev zL:= @RepT.sub_own
theorem RepT.wr_own_(m:RepT){o:Nat}(j:Nat){vs:List Value}{u':RowT}(ho:o=9+j)(h:j+vs.length≤174)(hw:wr (ints m.own.flat) j vs=ints u'.flat):wr (RepT.cells m) o vs=RepT.cells ({m with own:=u'}:RepT):=by subst ho;rw[eG];refine((eQ m).putIn (off:=9) 3 j vs rfl rfl (by simp) h hw).trans ?_;simp only[RepT.cells,bZ,ck]
abbrev Sr:= @RepT.wr_own_
theorem RepT.sp_own(m:RepT):((RepT.cells m).drop 9).take 174=ints m.own.flat:=zL m 0 rfl (by decide) (whole ((am _):(ints m.own.flat).length=174))
abbrev Fi:= @RepT.sp_own
theorem RepT.wp_own(m:RepT)(u:RowT):wr (RepT.cells m) 9 (ints u.flat)=RepT.cells ({m with own:=u}:RepT):=Sr m 0 rfl (by rw[bi];exact cV ((am _):(ints u.flat).length=174)) (cC (Eq.trans ((am _):(ints m.own.flat).length=174) (Eq.symm ((am _):(ints u.flat).length=174))))
theorem RepT.around_mirror(m:RepT): ∃A B,RepT.cells m=A++(MirT.cells m.mirror++B)∧A.length=183∧∀u':MirT,RepT.cells ({m with mirror:=u'}:RepT)=A++(MirT.cells u'++B):=by
 obtain⟨A,B,h1,h2,h3⟩:=(eQ m).around (off:=183) 4 rfl rfl (by simp);exact⟨A,B,by rw[eG];exact h1,h2,λu'=>by rw[←h3];simp only[RepT.cells,bZ,ck]⟩
theorem RepT.arnd_mirror(m:RepT):Arnd (λu:MirT=>RepT.cells ({m with mirror:=u}:RepT)) (λu=>MirT.cells u) 183:=by
 obtain⟨A,B,_,h2,h3⟩:=RepT.around_mirror m;exact⟨A,B,h2,h3⟩
abbrev eg:= @RepT.arnd_mirror
theorem RepT.sub_acc(m:RepT){o k:Nat}(j:Nat)(ho:o=1058+j)(h:j+k≤8){r:List Value}(hr:((ints m.acc.flat).drop j).take k=r):((RepT.cells m).drop o).take k=r:=by subst ho;rw[←hr,eG];exact(eQ m).sub (off:=1058) 5 j k rfl rfl (by simp) h
abbrev zM:= @RepT.sub_acc
theorem RepT.wr_acc_(m:RepT){o:Nat}(j:Nat){vs:List Value}{u':AccT}(ho:o=1058+j)(h:j+vs.length≤8)(hw:wr (ints m.acc.flat) j vs=ints u'.flat):wr (RepT.cells m) o vs=RepT.cells ({m with acc:=u'}:RepT):=by subst ho;rw[eG];refine((eQ m).putIn (off:=1058) 5 j vs rfl rfl (by simp) h hw).trans ?_;simp only[RepT.cells,bZ,ck]
abbrev kW:= @RepT.wr_acc_
theorem RepT.at_round(m:RepT){o:Nat}(ho:o=1066):(RepT.cells m)[o]?=some (Value.int .i64 m.round):=by subst ho;rw[eG];exact(eQ m).at (off:=1066) 6 0 rfl rfl (by simp) (by decide)
abbrev wJ:= @RepT.at_round
theorem RepT.set_round(m:RepT){o:Nat}(ho:o=1066)(x:Int):(RepT.cells m).set o (Value.int .i64 x)=RepT.cells ({m with round:=x}:RepT):=by subst ho;rw[eG];refine((eQ m).set (off:=1066) 6 0 _ rfl rfl (by simp) (by decide)).trans ?_;simp only[RepT.cells,bZ,ck]
abbrev mz:= @RepT.set_round
theorem RepT.at_vote(m:RepT){o:Nat}(ho:o=1067):(RepT.cells m)[o]?=some (m.vote):=by subst ho;rw[eG];exact(eQ m).at (off:=1067) 7 0 rfl rfl (by simp) (by decide)
abbrev cd:= @RepT.at_vote
theorem RepT.set_vote(m:RepT){o:Nat}(ho:o=1067)(x:Value):(RepT.cells m).set o (x)=RepT.cells ({m with vote:=x}:RepT):=by subst ho;rw[eG];refine((eQ m).set (off:=1067) 7 0 _ rfl rfl (by simp) (by decide)).trans ?_;simp only[RepT.cells,bZ,ck]
abbrev R3:= @RepT.set_vote
theorem RepT.around_book(m:RepT): ∃A B,RepT.cells m=A++(ints m.book.flat++B)∧A.length=1068∧∀u':BookT,RepT.cells ({m with book:=u'}:RepT)=A++(ints u'.flat++B):=by
 obtain⟨A,B,h1,h2,h3⟩:=(eQ m).around (off:=1068) 8 rfl rfl (by simp);exact⟨A,B,by rw[eG];exact h1,h2,λu'=>by rw[←h3];simp only[RepT.cells,bZ,ck]⟩
theorem RepT.arnd_book(m:RepT):Arnd (λu:BookT=>RepT.cells ({m with book:=u}:RepT)) (λu=>ints u.flat) 1068:=by
 obtain⟨A,B,_,h2,h3⟩:=RepT.around_book m;exact⟨A,B,h2,h3⟩
abbrev ib:= @RepT.arnd_book
theorem RepT.at_busy(m:RepT){o:Nat}(ho:o=1938):(RepT.cells m)[o]?=some (Value.bool m.busy):=by subst ho;rw[eG];exact(eQ m).at (off:=1938) 9 0 rfl rfl (by simp) (by decide)
abbrev zN:= @RepT.at_busy
theorem RepT.set_busy(m:RepT){o:Nat}(ho:o=1938)(x:Bool):(RepT.cells m).set o (Value.bool x)=RepT.cells ({m with busy:=x}:RepT):=by subst ho;rw[eG];refine((eQ m).set (off:=1938) 9 0 _ rfl rfl (by simp) (by decide)).trans ?_;simp only[RepT.cells,bZ,ck]
abbrev R5:= @RepT.set_busy
theorem RepT.at_kept(m:RepT){o:Nat}(ho:o=1939):(RepT.cells m)[o]?=some (Value.int .i64 m.kept):=by subst ho;rw[eG];exact(eQ m).at (off:=1939) 10 0 rfl rfl (by simp) (by decide)
abbrev td:= @RepT.at_kept
theorem RepT.set_kept(m:RepT){o:Nat}(ho:o=1939)(x:Int):(RepT.cells m).set o (Value.int .i64 x)=RepT.cells ({m with kept:=x}:RepT):=by subst ho;rw[eG];refine((eQ m).set (off:=1939) 10 0 _ rfl rfl (by simp) (by decide)).trans ?_;simp only[RepT.cells,bZ,ck]
abbrev R4:= @RepT.set_kept
theorem RepT.at_waits(m:RepT){o:Nat}(ho:o=1940):(RepT.cells m)[o]?=some (Value.int .i64 m.waits):=by subst ho;rw[eG];exact(eQ m).at (off:=1940) 11 0 rfl rfl (by simp) (by decide)
theorem RepT.set_waits(m:RepT){o:Nat}(ho:o=1940)(x:Int):(RepT.cells m).set o (Value.int .i64 x)=RepT.cells ({m with waits:=x}:RepT):=by subst ho;rw[eG];refine((eQ m).set (off:=1940) 11 0 _ rfl rfl (by simp) (by decide)).trans ?_;simp only[RepT.cells,bZ,ck]
theorem RepT.at_ops(m:RepT){o:Nat}(ho:o=1941):(RepT.cells m)[o]?=some (Value.int .i64 m.ops):=by subst ho;rw[eG];exact(eQ m).at (off:=1941) 12 0 rfl rfl (by simp) (by decide)
theorem RepT.set_ops(m:RepT){o:Nat}(ho:o=1941)(x:Int):(RepT.cells m).set o (Value.int .i64 x)=RepT.cells ({m with ops:=x}:RepT):=by subst ho;rw[eG];refine((eQ m).set (off:=1941) 12 0 _ rfl rfl (by simp) (by decide)).trans ?_;simp only[RepT.cells,bZ,ck]
theorem RepT.at_replies(m:RepT){o:Nat}(ho:o=1942):(RepT.cells m)[o]?=some (m.replies):=by subst ho;rw[eG];exact(eQ m).at (off:=1942) 13 0 rfl rfl (by simp) (by decide)
theorem RepT.set_replies(m:RepT){o:Nat}(ho:o=1942)(x:Value):(RepT.cells m).set o (x)=RepT.cells ({m with replies:=x}:RepT):=by subst ho;rw[eG];refine((eQ m).set (off:=1942) 13 0 _ rfl rfl (by simp) (by decide)).trans ?_;simp only[RepT.cells,bZ,ck]
theorem RepT.pt_told(m:RepT){o:Nat}(j:Nat)(ho:o=1943+j)(h:j<5){r:Option Value}(hr:(ints m.told.toList)[j]?=r):(RepT.cells m)[o]?=r:=by subst ho;rw[←hr,eG];exact(eQ m).at (off:=1943) 14 j rfl rfl (by simp) h
abbrev Ss:= @RepT.pt_told
theorem RepT.st_told(m:RepT){o:Nat}(j:Nat){v:Value}{u':Vector Int 5}(ho:o=1943+j)(h:j<5)(hw:(ints m.told.toList).set j v=ints u'.toList):(RepT.cells m).set o v=RepT.cells ({m with told:=u'}:RepT):=by subst ho;rw[eG];refine((eQ m).set (off:=1943) 14 j v rfl rfl (by simp) h).trans ?_;rw[hw];simp only[RepT.cells,bZ,ck]
theorem RepT.pt_last(m:RepT){o:Nat}(j:Nat)(ho:o=1948+j)(h:j<870){r:Option Value}(hr:(ints (m.last.toList.flatMap RowT.flat))[j]?=r):(RepT.cells m)[o]?=r:=by subst ho;rw[←hr,eG];exact(eQ m).at (off:=1948) 15 j rfl rfl (by simp) h
theorem RepT.sub_last(m:RepT){o k:Nat}(j:Nat)(ho:o=1948+j)(h:j+k≤870){r:List Value}(hr:((ints (m.last.toList.flatMap RowT.flat)).drop j).take k=r):((RepT.cells m).drop o).take k=r:=by subst ho;rw[←hr,eG];exact(eQ m).sub (off:=1948) 15 j k rfl rfl (by simp) h
theorem RepT.wr_last_(m:RepT){o:Nat}(j:Nat){vs:List Value}{u':Vector RowT 5}(ho:o=1948+j)(h:j+vs.length≤870)(hw:wr (ints (m.last.toList.flatMap RowT.flat)) j vs=ints (u'.toList.flatMap RowT.flat)):wr (RepT.cells m) o vs=RepT.cells ({m with last:=u'}:RepT):=by subst ho;rw[eG];refine((eQ m).putIn (off:=1948) 15 j vs rfl rfl (by simp) h hw).trans ?_;simp only[RepT.cells,bZ,ck]
def fR(n:Int):Int:=IntKind.i64.wrap n
theorem sA{n:Int}(h1: -9223372036854775808≤n)(h2:n≤9223372036854775807):fR n=n:=bY h1 h2
def na(key:Int):Bool:=decide (0≤key∧key<4)
theorem fy{w:Int}(h:cO w=true):w.toNat<5:=by have:0≤w∧w<5:=of_decide_eq_true h;omega
theorem B8{k:Int}(h:na k=true):k.toNat<4:=by have:0≤k∧k<4:=of_decide_eq_true h;omega
def yZ(key n:Int):Bool:=na key&&decide (1≤n)&&F0 n
def dT(x:RowT)(key:Int):CellT:=if h:na key=true then x.cells[key.toNat]'(B8 h)else .zero
def l6(x:RowT)(key:Int)(c:CellT):RowT:=if h:na key=true then {x with cells:=x.cells.set key.toNat c (B8 h)}else x
def ka(x:RowT)(key n counts:Int)(c:CellT):RowT×Int:=
 if counts>1099511627776-n then(.zero,6)else({l6 x key c with version:=fR (x.version+1)},0)
def oE(x:RowT)(key n:Int):RowT×Int:=
 if yZ key n then ka x key n (dT x key).inn {dT x key with inn:=fR ((dT x key).inn+n)}else(.zero,5)
def oF(x:RowT)(key n:Int):RowT×Int:=
 if yZ key n then ka x key n (dT x key).out {dT x key with out:=fR ((dT x key).out+n)}else(.zero,5)
def l7(c:CellT)(to:Int):Int:=if h:cO to=true then c.given[to.toNat]'(fy h)else 0
def yC(c:CellT)(to v:Int):CellT:=if h:cO to=true then {c with given:=c.given.set to.toNat v (fy h)}else c
def Kg(c:CellT):Int:=c.given.toList.foldl (λs g=>fR (s+g)) 0
def ln(x:RowT)(key n to:Int):RowT×Int:=
 if cO to&&yZ key n then ka x key n (Kg (dT x key)) (yC (dT x key) to (fR (l7 (dT x key) to+n)))else(.zero,5)
def ownAt(x:RowT)(who:Int)(i:Nat):Bool:=decide ((i:Int)=who)||decide (0<x.heir.toList.getD i 0)
def jc(x:RowT)(who:Int)(k:Nat):List Int:=((List.range k).filter (ownAt x who)).map λi=>((i:Nat):Int)
def gM(x:RowT)(who:Int):List Int:=jc x who 5
theorem sN(x:RowT)(who:Int)(k:Nat):jc x who (k+1)=jc x who k++(if ownAt x who k then [((k:Nat):Int)]else []):=by
 unfold jc;rw[dh,List.filter_append,cJ]
 by_cases h:ownAt x who k=true<;>simp[h]
theorem yc(x:RowT)(who:Int){i:Nat}(h:i<5):ownAt x who i=(decide ((i:Int)=who)||decide (0<x.heir[i])):=by simp[ownAt,h]
theorem IM(x:RowT)(who:Int)(k:Nat):(jc x who k).length≤k:=by
 unfold jc;rw[bQ];exact tg (p7 _ _) (by simp)
def fb(x:RowT)(of':Int):Int:=if h:cO of'=true then x.heir[of'.toNat]'(fy h)else 0
def B7(x:RowT)(of' key:Int):CellT:=if h:cO of'=true∧na key=true then(x.left[of'.toNat]'(fy h.1))[key.toNat]'(B8 h.2)else .zero
def ju(x:RowT)(who of' key:Int):CellT×Int:=
 if cO who&&cO of'&&na key then(if of'=who then(dT x key,x.version)else if fb x of'>0 then(B7 x of' key,fR (fb x of'-1))else(.zero, -1))else(.zero, -1)
def iw(who:Int):List Int:=if cO who then [(who+1)%5,(who+2)%5]else []
def cD(b:BookT)(who:Int):RowT:=if h:cO who=true then b.rows[who.toNat]'(fy h)else .zero
theorem yV(b:BookT){k:Nat}(h:k<5):cD b ((k:Nat):Int)=b.rows[k]:=by rw[cD,dif_pos (show cO ((k:Nat):Int)=true from decide_eq_true ⟨by omega,by omega⟩)];rfl
def x7(b:BookT)(who:Int)(x:RowT):BookT:=if h:cO who=true then {b with rows:=b.rows.set who.toNat x (fy h)}else b
def fh(b:BookT)(who:Int)(x:RowT):BookT×Bool:=
 if cO who&&fF x&&decide (x.version>(cD b who).version)then(x7 b who x,true)else(b,false)
def rj(b:BookT)(of' key:Int)(s:CellT×Int)(i:Nat):CellT×Int:=
 let c:=ju (cD b i) i of' key
 if c.2>s.2 then c else s
def vz(b:BookT)(of' key:Int)(k:Nat):CellT×Int:=(List.range k).foldl (rj b of' key) (.zero, -1)
def cT(b:BookT)(of' key:Int):CellT:=(vz b of' key 5).1
theorem ri(b:BookT)(of' key:Int)(k:Nat):vz b of' key (k+1)=rj b of' key (vz b of' key k) k:=by
 unfold vz;rw[dh,e5];rfl
def m4(b:BookT)(key:Int)(k:Nat):Int:=(List.range k).foldl (λv (i:Nat)=>fR (v+fR ((cT b i key).inn- (cT b i key).out))) 0
def eN(b:BookT)(key:Int):Int:=m4 b key 5
theorem m3(b:BookT)(key:Int)(k:Nat):m4 b key (k+1)=fR (m4 b key k+fR ((cT b k key).inn- (cT b k key).out)):=by
 unfold m4;rw[dh,e5];rfl
def qS(b:BookT)(key of':Int)(r:Int)(k:Nat):Int:=(List.range k).foldl (λr (i:Nat)=>fR (r+fR (l7 (cT b i key) of'-l7 (cT b of' key) i))) r
theorem zj(b:BookT)(key of' r:Int)(k:Nat):qS b key of' r (k+1)=fR (qS b key of' r k+fR (l7 (cT b k key) of'-l7 (cT b of' key) k)):=by
 unfold qS;rw[dh,e5];rfl
def pB(b:BookT)(key r of':Int):Int:=qS b key of' (fR (r+fR ((cT b of' key).inn- (cT b of' key).out))) 5
def nX(b:BookT)(who key:Int):Int:=if cO who then(gM (cD b who) who).foldl (pB b key) 0 else 0
theorem FT(x:RowT)(who:Int): ∀n∈gM x who,0≤n∧n<5:=by
 intro n hn;simp only[gM,jc,eH,O2,ei]at hn;obtain⟨i,⟨hi,_⟩,rfl⟩:=hn;omega
theorem yB(c:CellT){k:Nat}(h:k<5):l7 c ((k:Nat):Int)=c.given[k]:=by rw[l7,dif_pos (show cO ((k:Nat):Int)=true from decide_eq_true ⟨by omega,by omega⟩)];rfl
def dF(m:MirT)(who:Int):RowT:=if h:cO who=true then m.rows[who.toNat]'(fy h)else .zero
def fz(m:MirT)(who:Int):Bool:=if h:cO who=true then m.sealed[who.toNat]'(fy h)else false
def mp(m:MirT)(who:Int)(x:RowT):Bool:=cO who&& !fz m who&&fF x&&decide (x.version>(dF m who).version)
def B5(m:MirT)(who:Int)(x:RowT):MirT:=if h:cO who=true then {m with rows:=m.rows.set who.toNat x (fy h)}else m
def m9(m:MirT)(who:Int)(x:RowT):MirT×Bool:=if mp m who x then(B5 m who x,true)else(m,false)
def o9(m:MirT)(who:Int):MirT:=if h:cO who=true then {m with sealed:=m.sealed.set who.toNat true (fy h)}else m
end Api
end

section
namespace Go.Proofs.YtfocodjhmkokpaaGreatDoor
open Go Leg Codec Api
theorem uU:(Tryz.prog.info? 75).map (·.size)=some 870:=by kernel_rfl
theorem uT:(Tryz.prog.info? 78).map (·.size)=some 875:=by kernel_rfl
theorem FL:(Tryz.prog.info? 85).map (·.size)=some 870:=by kernel_rfl
theorem NH:NM 158:=nk Tryz.func158
theorem PN:NM 181:=nk Tryz.func181
theorem kE(w:Int):
 DT 99 #[(.int .i64 (w))] T0 [] (RI (.bool (cO w)) []):=by
 refine BD 9 Tryz.func99 rfl rfl rfl λw0 F hF=>sr λ_ J1=>PS ?_
 refine nx J1 (sr λ_ J2=>P2 ?_);refine aq ?_ ?_<;>intro h4
 iterate 5 refine PS ?_
 refine nx J2 (aj (aw rfl rfl ?_));exact⟨congrArg Value.bool (by unfold cO;first| (rw[decide_eq_decide];omega)| (symm;rw[decide_eq_false_iff_not];omega)| (symm;rw[decide_eq_true_iff];omega)),rfl⟩;refine PS ?_;refine UF ?_;refine UF ?_;refine P2 ?_;refine nx J2 (aj (aw rfl rfl ?_));exact⟨congrArg Value.bool (by unfold cO;first| (rw[decide_eq_decide];omega)| (symm;rw[decide_eq_false_iff_not];omega)| (symm;rw[decide_eq_true_iff];omega)),rfl⟩
theorem l3(w:Int):
 DT 58 #[(.int .i64 (w))] T0 [] (RI (.bool (cO w)) []):=by
 refine BD 9 Tryz.func58 rfl rfl rfl λw0 F hF=>sr λ_ J1=>PS ?_
 refine nx J1 (sr λ_ J2=>P2 ?_);refine aq ?_ ?_<;>intro h4
 iterate 5 refine PS ?_
 refine nx J2 (aj (aw rfl rfl ?_));exact⟨congrArg Value.bool (by unfold cO;first| (rw[decide_eq_decide];omega)| (symm;rw[decide_eq_false_iff_not];omega)| (symm;rw[decide_eq_true_iff];omega)),rfl⟩;refine PS ?_;refine UF ?_;refine UF ?_;refine P2 ?_;refine nx J2 (aj (aw rfl rfl ?_));exact⟨congrArg Value.bool (by unfold cO;first| (rw[decide_eq_decide];omega)| (symm;rw[decide_eq_false_iff_not];omega)| (symm;rw[decide_eq_true_iff];omega)),rfl⟩
theorem iR(w:Int):
 DT 97 #[(.int .i64 (w))] T0 [] (RI (.bool (cO w)) []):=by
 refine BD 9 Tryz.func97 rfl rfl rfl λw0 F hF=>sr λ_ J1=>PS ?_
 refine nx J1 (sr λ_ J2=>P2 ?_);refine aq ?_ ?_<;>intro h4
 iterate 5 refine PS ?_
 refine nx J2 (aj (aw rfl rfl ?_));exact⟨congrArg Value.bool (by unfold cO;first| (rw[decide_eq_decide];omega)| (symm;rw[decide_eq_false_iff_not];omega)| (symm;rw[decide_eq_true_iff];omega)),rfl⟩;refine PS ?_;refine UF ?_;refine UF ?_;refine P2 ?_;refine nx J2 (aj (aw rfl rfl ?_));exact⟨congrArg Value.bool (by unfold cO;first| (rw[decide_eq_decide];omega)| (symm;rw[decide_eq_false_iff_not];omega)| (symm;rw[decide_eq_true_iff];omega)),rfl⟩
theorem s6(key n:Int):
 DT 149 #[(.int .i64 (key)),(.int .i64 (n))] T0 [] (RI (.bool (yZ key n)) []):=by
 refine BD 19 Tryz.func149 rfl rfl rfl λw0 F hF=>sr λ_ J1=>PS ?_
 refine nx J1 (sr λ_ J2=>P2 ?_);refine aq ?_ ?_<;>intro h6;refine P3 ?_;refine aq ?_ ?_<;>intro h9;refine P4 ?_;refine aq ?_ ?_<;>intro h13;refine P3 ?_;refine CE KK (ko n) ID ?_;refine P2 ?_;refine nx J2 (aj (WK [] (aw rfl rfl ?_)));exact⟨congrArg Value.bool (by simp[yZ,na, *]),rfl⟩;refine P2 ?_;refine UF ?_;refine UF ?_;refine P2 ?_;refine nx J2 (aj (WK [] (aw rfl rfl ?_)));exact⟨congrArg Value.bool (by simp[yZ,na, *]),rfl⟩;refine P2 ?_;refine UF ?_;refine UF ?_;refine P2 ?_;refine UF ?_;refine UF ?_;refine P2 ?_;refine nx J2 (aj (WK [] (aw rfl rfl ?_)));exact⟨congrArg Value.bool (by simp[yZ,na, *]),rfl⟩;refine PS ?_;refine UF ?_;refine UF ?_;refine P2 ?_;refine UF ?_;refine UF ?_;refine P2 ?_;refine UF ?_;refine UF ?_;refine P2 ?_;refine nx J2 (aj (WK [] (aw rfl rfl ?_)));exact⟨congrArg Value.bool (by simp[yZ,na, *]),rfl⟩
theorem Jc(b off T:Nat)(cs:List Value)(n:Int)(h:cs[off]?=some (.int .i64 n)):
 DT 151 #[(.pointer (some ⟨b,off,none⟩))] T0 [ak b (cs) T] (RI (.tuple #[.int .i64 n, .pointer (some ⟨b,off,none⟩)]) [ak b cs T]):=by
 refine BD 11 Tryz.func151 rfl rfl rfl λw0 F hF=>sr λ_ J1=>P2 ?_
 refine nx J1 (aa λ_ J2=>D1 0 mixed ?_);refine PD 0 ?_;refine PD 1 ?_;refine ta 2 rfl (bb (r:=off) rfl nw rfl aR rfl rfl) ?_;refine LX 3 Y3 (.int .i64 (n)) ?_ (hc:=by exact h);refine PD 4 ?_;refine PD 5 ?_;refine ta 6 rfl (bb (r:=off) rfl nw rfl aR rfl rfl) ?_;refine PD 7 ?_;refine PD 8 ?_;exact DN (ae J2 (aj (WK [0] (iu rfl rfl rfl ⟨rfl,rfl⟩))))
theorem Jq(b off T:Nat)(cs:List Value)(n:Int)(h:cs[off+1]?=some (.int .i64 n)):
 DT 152 #[(.pointer (some ⟨b,off,none⟩))] T0 [ak b (cs) T] (RI (.tuple #[.int .i64 n, .pointer (some ⟨b,off+1,none⟩)]) [ak b cs T]):=by
 refine BD 11 Tryz.func152 rfl rfl rfl λw0 F hF=>sr λ_ J1=>P2 ?_
 refine nx J1 (aa λ_ J2=>D1 0 mixed ?_);refine PD 0 ?_;refine PD 1 ?_;refine ta 2 rfl (bb (r:=off+1) rfl nw rfl aR rfl rfl) ?_;refine LX 3 Y3 (.int .i64 (n)) ?_ (hc:=by exact h);refine PD 4 ?_;refine PD 5 ?_;refine ta 6 rfl (bb (r:=off+1) rfl nw rfl aR rfl rfl) ?_;refine PD 7 ?_;refine PD 8 ?_;exact DN (ae J2 (aj (WK [0] (iu rfl rfl rfl ⟨rfl,rfl⟩))))
theorem Gp(b off T tb:Nat)(cs:List Value)(g:Vector Int 5)(to':Int)(ht:0≤to'∧to'<5)(h:(cs.drop (off+2)).take 5=ints g.toList):
 DT 153 #[(.pointer (some ⟨b,off,none⟩)),(.pointer (some ⟨tb,0,none⟩))] T0 [ak b (cs) T,ak tb [(.int .i64 (to'))] 3] (RI (.tuple #[.int .i64 (g.toList.foldl (λs g=>fR (s+g)) 0), .pointer (some ⟨b,off+2+to'.toNat,none⟩)]) [ak b cs T,ak tb [.int .i64 to'] 3]):=by
 refine BD 25 Tryz.func153 rfl rfl rfl λw0 F hF=>sr λ_ J1=>P2 ?_
 refine nx J1 (sr λ_ J2=>PS ?_);refine nx J2 (aa λ_ J3=>sr λ_ J4=>P2 ?_);refine tp (bb (r:=off+2) rfl nw rfl e8 rfl rfl) ?_;refine tp (aP (vs:=ints g.toList) rfl ke rfl e8 rfl (RO 0) (dC g) h) ?_;refine PS ?_;refine nx J4 (av ?_)
 refine bz (α:=(Nat)×(Int)) (λ⟨k,s⟩=>k≤5∧s=(g.toList.take k).foldl (λs g=>fR (s+g)) 0) (λ⟨k,s⟩=>[(0,(.pointer (some ⟨b,off,none⟩))),(1,(.pointer (some ⟨tb,0,none⟩))),(3,(.int .i64 0)),(4,(.pointer none)),(5,(.int .i64 (s))),(11,(.agg (ints g.toList).toArray)),(12,(.int .i64 (((k:Nat):Int))))]) (λ⟨k,s⟩=>[ak b (cs) T,ak tb [(.int .i64 (to'))] 3]) (λ⟨k,s⟩=>5-k) (0,0)
  ⟨aO _,rfl⟩ SB
  (λ_ s=>s) (λ⟨k,s⟩ hinv=>?_)
 obtain⟨hk,hs⟩:=hinv;refine sr λ_ J5=>PS ?_
 refine aq ?_ ?_<;>intro h13;refine nx J5 (aa λ_ J6=>CY (qx J6 (aa λ_ J7=>av (sr λ_ J8=>tp (mM (cs:=ints g.toList) (v:=Value.int .i64 (g[k]'(by omega))) (r:=k) rfl ke Y3 rfl aR rfl rfl (by omega) (by omega) (by omega) (kN g (by omega))) ?_))));refine PS ?_;refine nx J8 (af (P2 ?_));refine tp (cN (r:=(fR (s+(g[k]'(by omega))))) rfl rfl rfl rfl) ?_;refine PS ?_;refine ax (ai (ae J7 (af (AD ?_))));refine PS ?_;refine ax ?_
 exact aM ((k+1,(fR (s+(g[k]'(by omega))))):(Nat)×(Int)) ⟨by omega,by rw[bU (by simp;omega),e5,←hs];simp⟩ (by show 5- (k+1)<5-k;omega)
  SB
  (λ_ s=>s)
 refine nx J5 (aa λ_ J9=>CN (aX (aC (aC (bq (ae J3 (aa λ_ J10=>D1 1 mixed ?_)))))));refine PD 0 ?_;refine PD 1 ?_;refine LX 2 Y3 (.int .i64 (to')) ?_ (hc:=by exact rfl);refine PD 3 ?_;refine ta 4 rfl (bb (r:=off+2) rfl nw rfl e8 rfl rfl) ?_;refine IY 5 (off+2+(to').toNat) ke aR ?_;refine PD 6 ?_;refine PD 7 ?_;refine DN (ae J10 (aj (WK [0,0] (iu rfl rfl rfl ?_))));exact⟨by rw[hs,az (by simp;omega)],rfl⟩
theorem B3(x:RowT)(key n:Int)(hk:0≤key∧key<4)(hn:1≤n∧n≤1099511627776):
 DT 150 #[(.agg (ints x.flat).toArray),(.int .i64 (key)),(.int .i64 (n)),(.func (.func 151) #[] #[])] T0 [] (RI (.tuple #[.agg (ints (ka x key n (dT x key).inn {dT x key with inn:=fR ((dT x key).inn+n)}).1.flat).toArray, .int .i64 (ka x key n (dT x key).inn {dT x key with inn:=fR ((dT x key).inn+n)}).2]) []):=by
 refine BD 36 Tryz.func150 rfl rfl rfl λw0 F hF=>?_
 have hkb:na key=true:=decide_eq_true hk;have hcell:dT x key=x.cells[key.toNat]'(by omega):=by rw[dT,dif_pos hkb]
 refine sr λ_ J1=>XY (ints x.flat) λb4=>?_
 refine XZ vD (ints RowT.zero.flat) λb8=>?_
 refine PS ?_;refine nx J1 (sr λ_ J2=>P2 ?_);refine FA 1 ec ma ?_;refine IX (1+key.toNat*7) CB fN ?_;refine TL.callRv (ab rfl) rfl rfl rfl rfl P9 rfl (Jc b4 (1+key.toNat*7) 39 (ints x.flat) x.cells[key.toNat].inn (wH x (key.toNat*7) (by omega) (by omega) (oO bD x.cells (i:=key.toNat) 0 (by omega) (by omega) (by decide) (ti _ rfl)))) (λ_ s=>aD [1] rfl s) (λ_ _ _=>trivial) (λvR HR hR=>?_);obtain⟨rfl,rfl⟩:=hR;refine P4 ?_;refine PS ?_;refine nx J2 (aa λ_ J3=>sr λ_ J4=>P2 ?_);refine tp (jC (r:=(1099511627776-n)) rfl rfl rfl (bY (by omega) (by omega))) ?_;refine PS ?_;refine aq ?_ ?_<;>intro h23;refine nx J4 (CY (sr λ_ J5=>BV ((ints RowT.zero.flat).toArray) ?_));refine SW 1 bg am ?_;refine PS ?_;refine nx J5 (aj (ag (RT 1 [] ec bg (am _) ?_)));exact⟨by rw[ka,hcell,if_pos h23],rfl⟩;refine nx J4 (CN (qx J3 (sr λ_ J6=>P2 ?_)));refine LT 0 Y3 (.int .i64 ((x.cells[key.toNat]'(by omega)).inn)) ?_ (hc:=by exact wH x (key.toNat*7) (by omega) (by omega) (oO bD x.cells (i:=key.toNat) 0 (by omega) (by omega) (by decide) (ti (x.cells[key.toNat]'(by omega)) rfl)));refine PS ?_;refine tp (cN (r:=(fR (((x.cells[key.toNat]'(by omega)).inn)+n))) rfl rfl rfl rfl) ?_;refine PS ?_
 refine bF (i:=0) (ab rfl) rfl rfl rfl rfl rfl aR rfl rfl (LB (am _)) (R1 x (key.toNat*7) (by omega) (by omega) (JS bD x.cells (i:=key.toNat) 0 (by omega) (by omega) (by decide) (CellT.set_inn _ rfl _))) rfl (nx J6 (sr λ_ J7=>FA 0 ec aR ?_));refine LT 0 Y3 (.int .i64 (x.version)) ?_ (hc:=by exact cB _ rfl);refine tp (cN (r:=(fR (x.version+1))) rfl rfl rfl rfl) ?_;refine FA 0 ec aR ?_;refine bF (i:=0) (ab rfl) rfl rfl rfl rfl rfl aR rfl rfl (LB (am _)) (y3 _ rfl _) rfl (nx J7 (sr λ_ J8=>LW 0 ec bg am ?_));refine SW 1 bg am ?_;refine PS ?_;refine nx J8 (aj (RT 1 [] ec bg (am _) ?_));refine⟨?_,rfl⟩;rw[ka,hcell,if_neg h23,l6,dif_pos hkb]
theorem B4(x:RowT)(key n:Int)(hk:0≤key∧key<4)(hn:1≤n∧n≤1099511627776):
 DT 150 #[(.agg (ints x.flat).toArray),(.int .i64 (key)),(.int .i64 (n)),(.func (.func 152) #[] #[])] T0 [] (RI (.tuple #[.agg (ints (ka x key n (dT x key).out {dT x key with out:=fR ((dT x key).out+n)}).1.flat).toArray, .int .i64 (ka x key n (dT x key).out {dT x key with out:=fR ((dT x key).out+n)}).2]) []):=by
 refine BD 36 Tryz.func150 rfl rfl rfl λw0 F hF=>?_
 have hkb:na key=true:=decide_eq_true hk;have hcell:dT x key=x.cells[key.toNat]'(by omega):=by rw[dT,dif_pos hkb]
 refine sr λ_ J1=>XY (ints x.flat) λb4=>?_
 refine XZ vD (ints RowT.zero.flat) λb8=>?_
 refine PS ?_;refine nx J1 (sr λ_ J2=>P2 ?_);refine FA 1 ec ma ?_;refine IX (1+key.toNat*7) CB fN ?_;refine TL.callRv (ab rfl) rfl rfl rfl rfl P8 rfl (Jq b4 (1+key.toNat*7) 39 (ints x.flat) x.cells[key.toNat].out (wH x (key.toNat*7+1) (by omega) (by omega) (oO bD x.cells (i:=key.toNat) 1 (by omega) (by omega) (by decide) (th _ rfl)))) (λ_ s=>aD [1] rfl s) (λ_ _ _=>trivial) (λvR HR hR=>?_);obtain⟨rfl,rfl⟩:=hR;refine P4 ?_;refine PS ?_;refine nx J2 (aa λ_ J3=>sr λ_ J4=>P2 ?_);refine tp (jC (r:=(1099511627776-n)) rfl rfl rfl (bY (by omega) (by omega))) ?_;refine PS ?_;refine aq ?_ ?_<;>intro h23;refine nx J4 (CY (sr λ_ J5=>BV ((ints RowT.zero.flat).toArray) ?_));refine SW 1 bg am ?_;refine PS ?_;refine nx J5 (aj (ag (RT 1 [] ec bg (am _) ?_)));exact⟨by rw[ka,hcell,if_pos h23],rfl⟩;refine nx J4 (CN (qx J3 (sr λ_ J6=>P2 ?_)));refine LT 0 Y3 (.int .i64 ((x.cells[key.toNat]'(by omega)).out)) ?_ (hc:=by exact wH x (key.toNat*7+1) (by omega) (by omega) (oO bD x.cells (i:=key.toNat) 1 (by omega) (by omega) (by decide) (th (x.cells[key.toNat]'(by omega)) rfl)));refine PS ?_;refine tp (cN (r:=(fR (((x.cells[key.toNat]'(by omega)).out)+n))) rfl rfl rfl rfl) ?_;refine PS ?_
 refine bF (i:=0) (ab rfl) rfl rfl rfl rfl rfl aR rfl rfl (LB (am _)) (R1 x (key.toNat*7+1) (by omega) (by omega) (JS bD x.cells (i:=key.toNat) 1 (by omega) (by omega) (by decide) (CellT.set_out _ rfl _))) rfl (nx J6 (sr λ_ J7=>FA 0 ec aR ?_));refine LT 0 Y3 (.int .i64 (x.version)) ?_ (hc:=by exact cB _ rfl);refine tp (cN (r:=(fR (x.version+1))) rfl rfl rfl rfl) ?_;refine FA 0 ec aR ?_;refine bF (i:=0) (ab rfl) rfl rfl rfl rfl rfl aR rfl rfl (LB (am _)) (y3 _ rfl _) rfl (nx J7 (sr λ_ J8=>LW 0 ec bg am ?_));refine SW 1 bg am ?_;refine PS ?_;refine nx J8 (aj (RT 1 [] ec bg (am _) ?_));refine⟨?_,rfl⟩;rw[ka,hcell,if_neg h23,l6,dif_pos hkb]
theorem zp(x:RowT)(key n:Int)(hk:0≤key∧key<4)(hn:1≤n∧n≤1099511627776)(tb:Nat)(to':Int)(ht:0≤to'∧to'<5):
 DT 150 #[(.agg (ints x.flat).toArray),(.int .i64 (key)),(.int .i64 (n)),(.func (.func 153) #[] #[(.pointer (some ⟨tb,0,none⟩))])] T0 [ak tb [(.int .i64 (to'))] 3] (RI (.tuple #[.agg (ints (ka x key n (Kg (dT x key)) (yC (dT x key) to' (fR (l7 (dT x key) to'+n)))).1.flat).toArray, .int .i64 (ka x key n (Kg (dT x key)) (yC (dT x key) to' (fR (l7 (dT x key) to'+n)))).2]) [ak tb [.int .i64 to'] 3]):=by
 refine Leg.Does.body (vs:=[(.agg (ints x.flat).toArray),(.int .i64 (key)),(.int .i64 (n)),(.func (.func 153) #[] #[(.pointer (some ⟨tb,0,none⟩))])]) (n:=36) Tryz.func150 rfl rfl rfl (λw0 F hF=>?_);have hkb:na key=true:=decide_eq_true hk;have hcell:dT x key=x.cells[key.toNat]'(by omega):=by rw[dT,dif_pos hkb]
 have htb:cO to'=true:=decide_eq_true ht;refine sr λ_ J1=>?_
 refine TL.box (ab rfl) rfl rfl rfl rfl (λb4=>?_);change TL _ _ _ _ _ _ _ _ _ [ak b4 (ints x.flat) 39,ak tb [(.int .i64 (to'))] 3];refine rr (ab rfl) rfl rfl rfl vD (λb8=>?_);change TL _ _ _ _ _ _ _ _ _ [ak b8 (ints RowT.zero.flat) 39,ak b4 (ints x.flat) 39,ak tb [(.int .i64 (to'))] 3];refine qn ?_;refine nx J1 ?_;refine sr λ_ J2=>?_
 refine mv ?_;refine mv ?_;refine tp (bb (r:=1) rfl ec rfl ma rfl rfl) ?_;refine tp (ox (r:=1+key.toNat*7) rfl CB fN rfl rfl (by omega) (by omega) (by omega)) ?_;refine TL.callRv (ab rfl) rfl rfl rfl rfl P7 rfl (Gp b4 (1+key.toNat*7) 39 tb (ints x.flat) x.cells[key.toNat].given to' ht (Fh x (key.toNat*7+2) (by omega) (by omega) (k9 bD x.cells (i:=key.toNat) 2 (by omega) (by omega) (by decide) (CellT.sub_given (x.cells[key.toNat]'(by omega)) 0 rfl (by decide) (whole (dC ((x.cells[key.toNat]'(by omega)).given))))))) (λ_ s=>aD [1,1] rfl s) (λ_ _ _=>trivial) (λvR HR hR=>?_);obtain⟨rfl,rfl⟩:=hR;refine mv ?_;refine tp (ix (vs:=[(.int .i64 ((Kg (x.cells[key.toNat]'(by omega))))),(.pointer (some ⟨b4,1+key.toNat*7+2+to'.toNat,none⟩))]) rfl rfl rfl) ?_;refine tp (ix (vs:=[(.int .i64 ((Kg (x.cells[key.toNat]'(by omega))))),(.pointer (some ⟨b4,1+key.toNat*7+2+to'.toNat,none⟩))]) rfl rfl rfl) ?_;refine qn ?_;refine qn ?_;refine nx J2 ?_;refine aa λ_ J3=>?_
 refine sr λ_ J4=>?_
 refine mv ?_;refine mv ?_;refine tp (jC (r:=(1099511627776-n)) rfl rfl rfl (bY (by omega) (by omega))) ?_;refine tp (PV.gtr rfl rfl rfl) ?_;refine aq (λh23=>?_) (λh23=>?_);refine nx J4 ?_;refine od rfl ?_;refine sr λ_ J5=>?_
 refine tp (kA (cells:=(ints RowT.zero.flat).toArray) rfl rfl (by as_aux_lemma=>kernel_rfl)) ?_;refine bT (vs:=ints RowT.zero.flat) (i:=2) (ab rfl) rfl rfl rfl rfl rfl (by rw[(am RowT.zero)];exact bg) (bw _) rfl rfl (by have h0:=(am RowT.zero);have h1:=(am RowT.zero);omega) (cC ((am RowT.zero).trans (am RowT.zero).symm)) rfl ?_;refine qn ?_;refine nx J5 ?_;refine aj ?_;refine ag ?_;refine my (H':=[ak tb [(.int .i64 (to'))] 3]) rfl rfl rfl ec rfl bg (fj 2 rfl rfl) (am RowT.zero) (λ_ s=>an [1] rfl s) ?_;exact⟨by rw[ka,hcell,if_pos h23],rfl⟩;refine nx J4 ?_;refine HJ rfl ?_;refine aV ?_;refine ae J3 ?_;refine sr λ_ J6=>?_
 refine mv ?_;refine tp (gD rfl rfl) ?_;refine tp (ic (v:=(.int .i64 ((((x.cells[key.toNat]'(by omega)).given)[to'.toNat]'(by omega))))) rfl Y3 rfl rfl (fj 0 rfl rfl) (wH x (key.toNat*7+2+to'.toNat) (by omega) (by omega) (oO bD x.cells (i:=key.toNat) (2+to'.toNat) (by omega) (by omega) (by omega) (QX (x.cells[key.toNat]'(by omega)) (to'.toNat) (by omega) (by omega) (kN ((x.cells[key.toNat]'(by omega)).given) (by omega)))))) ?_;refine mv ?_;refine tp (cN (r:=(fR ((((x.cells[key.toNat]'(by omega)).given)[to'.toNat]'(by omega))+n))) rfl rfl rfl rfl) ?_;refine tp (gD rfl rfl) ?_;refine bF (i:=0) (ab rfl) rfl rfl rfl rfl rfl aR rfl rfl (by have h0:=(am x);omega) (R1 x (key.toNat*7+2+to'.toNat) (by omega) (by omega) (JS bD x.cells (i:=key.toNat) (2+to'.toNat) (by omega) (by omega) (by omega) (CellT.st_given (x.cells[key.toNat]'(by omega)) (to'.toNat) (by omega) (by omega) (Ac ((x.cells[key.toNat]'(by omega)).given) (by omega) _)))) rfl ?_;refine nx J6 ?_;refine sr λ_ J7=>?_
 refine tp (bb (r:=0) rfl ec rfl aR rfl rfl) ?_;refine tp (ic (v:=(.int .i64 (x.version))) rfl Y3 rfl rfl (fj 0 rfl rfl) (cB (RowT.mk x.version (x.cells.set key.toNat (CellT.mk ((x.cells[key.toNat]'(by omega)).inn) ((x.cells[key.toNat]'(by omega)).out) (((x.cells[key.toNat]'(by omega)).given).set to'.toNat (fR ((((x.cells[key.toNat]'(by omega)).given)[to'.toNat]'(by omega))+n)) (by omega))) (by omega)) x.heir x.left) rfl)) ?_;refine tp (cN (r:=(fR (x.version+1))) rfl rfl rfl rfl) ?_;refine tp (bb (r:=0) rfl ec rfl aR rfl rfl) ?_;refine bF (i:=0) (ab rfl) rfl rfl rfl rfl rfl aR rfl rfl (by have h0:=(am (RowT.mk x.version (x.cells.set key.toNat (CellT.mk ((x.cells[key.toNat]'(by omega)).inn) ((x.cells[key.toNat]'(by omega)).out) (((x.cells[key.toNat]'(by omega)).given).set to'.toNat (fR ((((x.cells[key.toNat]'(by omega)).given)[to'.toNat]'(by omega))+n)) (by omega))) (by omega)) x.heir x.left));omega) (y3 (RowT.mk x.version (x.cells.set key.toNat (CellT.mk ((x.cells[key.toNat]'(by omega)).inn) ((x.cells[key.toNat]'(by omega)).out) (((x.cells[key.toNat]'(by omega)).given).set to'.toNat (fR ((((x.cells[key.toNat]'(by omega)).given)[to'.toNat]'(by omega))+n)) (by omega))) (by omega)) x.heir x.left) rfl _) rfl ?_;refine nx J7 ?_;refine sr λ_ J8=>?_
 refine tp (aP (vs:=ints (RowT.mk (fR (x.version+1)) (x.cells.set key.toNat (CellT.mk ((x.cells[key.toNat]'(by omega)).inn) ((x.cells[key.toNat]'(by omega)).out) (((x.cells[key.toNat]'(by omega)).given).set to'.toNat (fR ((((x.cells[key.toNat]'(by omega)).given)[to'.toNat]'(by omega))+n)) (by omega))) (by omega)) x.heir x.left).flat) rfl ec rfl bg rfl (fj 0 rfl rfl) (am (RowT.mk (fR (x.version+1)) (x.cells.set key.toNat (CellT.mk ((x.cells[key.toNat]'(by omega)).inn) ((x.cells[key.toNat]'(by omega)).out) (((x.cells[key.toNat]'(by omega)).given).set to'.toNat (fR ((((x.cells[key.toNat]'(by omega)).given)[to'.toNat]'(by omega))+n)) (by omega))) (by omega)) x.heir x.left)) (whole (am (RowT.mk (fR (x.version+1)) (x.cells.set key.toNat (CellT.mk ((x.cells[key.toNat]'(by omega)).inn) ((x.cells[key.toNat]'(by omega)).out) (((x.cells[key.toNat]'(by omega)).given).set to'.toNat (fR ((((x.cells[key.toNat]'(by omega)).given)[to'.toNat]'(by omega))+n)) (by omega))) (by omega)) x.heir x.left)))) ?_
 refine bT (vs:=ints (RowT.mk (fR (x.version+1)) (x.cells.set key.toNat (CellT.mk ((x.cells[key.toNat]'(by omega)).inn) ((x.cells[key.toNat]'(by omega)).out) (((x.cells[key.toNat]'(by omega)).given).set to'.toNat (fR ((((x.cells[key.toNat]'(by omega)).given)[to'.toNat]'(by omega))+n)) (by omega))) (by omega)) x.heir x.left).flat) (i:=2) (ab rfl) rfl rfl rfl rfl rfl (by rw[(am (RowT.mk (fR (x.version+1)) (x.cells.set key.toNat (CellT.mk ((x.cells[key.toNat]'(by omega)).inn) ((x.cells[key.toNat]'(by omega)).out) (((x.cells[key.toNat]'(by omega)).given).set to'.toNat (fR ((((x.cells[key.toNat]'(by omega)).given)[to'.toNat]'(by omega))+n)) (by omega))) (by omega)) x.heir x.left))];exact bg) (bw _) rfl rfl (by have h0:=(am RowT.zero);have h1:=(am (RowT.mk (fR (x.version+1)) (x.cells.set key.toNat (CellT.mk ((x.cells[key.toNat]'(by omega)).inn) ((x.cells[key.toNat]'(by omega)).out) (((x.cells[key.toNat]'(by omega)).given).set to'.toNat (fR ((((x.cells[key.toNat]'(by omega)).given)[to'.toNat]'(by omega))+n)) (by omega))) (by omega)) x.heir x.left));omega) (cC ((am RowT.zero).trans (am (RowT.mk (fR (x.version+1)) (x.cells.set key.toNat (CellT.mk ((x.cells[key.toNat]'(by omega)).inn) ((x.cells[key.toNat]'(by omega)).out) (((x.cells[key.toNat]'(by omega)).given).set to'.toNat (fR ((((x.cells[key.toNat]'(by omega)).given)[to'.toNat]'(by omega))+n)) (by omega))) (by omega)) x.heir x.left)).symm)) rfl ?_;refine qn ?_;refine nx J8 ?_;refine aj ?_
 refine my (H':=[ak tb [(.int .i64 (to'))] 3]) rfl rfl rfl ec rfl bg (fj 2 rfl rfl) (am (RowT.mk (fR (x.version+1)) (x.cells.set key.toNat (CellT.mk ((x.cells[key.toNat]'(by omega)).inn) ((x.cells[key.toNat]'(by omega)).out) (((x.cells[key.toNat]'(by omega)).given).set to'.toNat (fR ((((x.cells[key.toNat]'(by omega)).given)[to'.toNat]'(by omega))+n)) (by omega))) (by omega)) x.heir x.left)) (λ_ s=>an [1] rfl s) ?_;refine⟨?_,rfl⟩;rw[ka,hcell,if_neg h23,l6,dif_pos hkb];simp[yC,l7,htb]
theorem DJ(x:RowT)(key n:Int):
 DT 110 #[(.agg (ints x.flat).toArray),(.int .i64 (key)),(.int .i64 (n))] T0 [] (RI (.tuple #[.agg (ints (oE x key n).1.flat).toArray, .int .i64 (oE x key n).2]) []):=by
 refine BD 19 Tryz.func110 rfl rfl rfl λw0 F hF=>sr λ_ J1=>XY (ints x.flat) λb3=>?_
 refine XZ vD (ints RowT.zero.flat) λb6=>?_
 refine PS ?_;refine nx J1 (aa λ_ J2=>sr λ_ J3=>P2 ?_);refine CE KP (s6 key n) ID ?_;refine bh ?_ ?_<;>intro h10;have hq:=h10;unfold yZ na F0 at hq;simp only[ay,decide_eq_true_iff]at hq;have hk:0≤key∧key<4:=hq.1.1;have hn:1≤n∧n≤1099511627776:=⟨hq.1.2,hq.2.2⟩;refine PS ?_;refine nx J3 (CN (qx J2 (sr λ_ J4=>LW 1 ec bg am ?_)));refine P2 ?_;refine CE KO (B3 x key n hk hn) ID ?_;refine P2 ?_;refine SW 0 bg am ?_;refine PS ?_;refine nx J4 (aj (RT 0 [] ec bg (am _) ?_));exact⟨by simp[oE, *],rfl⟩;refine PS ?_;refine nx J3 (CY (sr λ_ J5=>BV ((ints RowT.zero.flat).toArray) ?_));refine SW 0 bg am ?_;refine PS ?_;refine nx J5 (aj (ag (RT 0 [] ec bg (am _) ?_)));exact⟨by simp[oE, *],rfl⟩
theorem DK(x:RowT)(key n:Int):
 DT 111 #[(.agg (ints x.flat).toArray),(.int .i64 (key)),(.int .i64 (n))] T0 [] (RI (.tuple #[.agg (ints (oF x key n).1.flat).toArray, .int .i64 (oF x key n).2]) []):=by
 refine BD 19 Tryz.func111 rfl rfl rfl λw0 F hF=>sr λ_ J1=>XY (ints x.flat) λb3=>?_
 refine XZ vD (ints RowT.zero.flat) λb6=>?_
 refine PS ?_;refine nx J1 (aa λ_ J2=>sr λ_ J3=>P2 ?_);refine CE KP (s6 key n) ID ?_;refine bh ?_ ?_<;>intro h10;have hq:=h10;unfold yZ na F0 at hq;simp only[ay,decide_eq_true_iff]at hq;have hk:0≤key∧key<4:=hq.1.1;have hn:1≤n∧n≤1099511627776:=⟨hq.1.2,hq.2.2⟩;refine PS ?_;refine nx J3 (CN (qx J2 (sr λ_ J4=>LW 1 ec bg am ?_)));refine P2 ?_;refine CE KO (B4 x key n hk hn) ID ?_;refine P2 ?_;refine SW 0 bg am ?_;refine PS ?_;refine nx J4 (aj (RT 0 [] ec bg (am _) ?_));exact⟨by simp[oF, *],rfl⟩;refine PS ?_;refine nx J3 (CY (sr λ_ J5=>BV ((ints RowT.zero.flat).toArray) ?_));refine SW 0 bg am ?_;refine PS ?_;refine nx J5 (aj (ag (RT 0 [] ec bg (am _) ?_)));exact⟨by simp[oF, *],rfl⟩
theorem BH(x:RowT)(key n to':Int):
 DT 112 #[(.agg (ints x.flat).toArray),(.int .i64 (key)),(.int .i64 (n)),(.int .i64 (to'))] T0 [] (RI (.tuple #[.agg (ints (ln x key n to').1.flat).toArray, .int .i64 (ln x key n to').2]) []):=by
 refine BD 27 Tryz.func112 rfl rfl rfl λw0 F hF=>sr λ_ J1=>XY (ints x.flat) λb4=>?_
 refine XB λb7=>?_
 refine XZ vD (ints RowT.zero.flat) λb8=>?_
 refine PS ?_;refine nx J1 (aa λ_ J2=>sr λ_ J3=>LA 1 Y3 ?_);refine CE MF (kE to') ID ?_;refine bh ?_ ?_<;>intro h11;refine PS ?_;refine P3 ?_;refine CE KP (s6 key n) ID ?_;refine bh ?_ ?_<;>intro h16;have hq:=h16;unfold yZ na F0 at hq;simp only[ay,decide_eq_true_iff]at hq;have hk:0≤key∧key<4:=hq.1.1;have hn:1≤n∧n≤1099511627776:=⟨hq.1.2,hq.2.2⟩;have ht:0≤to'∧to'<5:=of_decide_eq_true h11;refine PS ?_;refine PS ?_;refine nx J3 (CN (qx J2 (sr λ_ J4=>LW 2 ec bg am ?_)));refine P2 ?_;refine tp (Sh rfl rfl) ?_;refine CE KO (zp x key n hk hn b7 to' ht) (SM [1]) ?_;refine P2 ?_;refine SW 1 bg am ?_;refine PS ?_;refine nx J4 (aj (RT 1 [] ec bg (am _) ?_));exact⟨by simp[ln, *],rfl⟩;refine PS ?_;refine PS ?_;refine nx J3 (CY (sr λ_ J5=>BV ((ints RowT.zero.flat).toArray) ?_));refine SW 0 bg am ?_;refine PS ?_;refine nx J5 (aj (ag (RT 0 [] ec bg (am _) ?_)));exact⟨by simp[ln, *],rfl⟩;refine PS ?_;refine PS ?_
 iterate 4 refine UT ?_
 refine PS ?_;refine nx J3 (CY (sr λ_ J6=>BV ((ints RowT.zero.flat).toArray) ?_));refine SW 0 bg am ?_;refine PS ?_;refine nx J6 (aj (ag (RT 0 [] ec bg (am _) ?_)));exact⟨by simp[ln, *],rfl⟩
theorem DI(x:RowT)(who:Int):
 DT 154 #[(.agg (ints x.flat).toArray),(.int .i64 (who))] T0 [] (dA (λr' H=>∃u,r'=u∧H=[own u (gM x who).length (ints (gM x who)) 3 1])):=by
 refine BD 27 Tryz.func154 rfl rfl rfl λw0 F hF=>sr λ_ J1=>XY (ints x.flat) λb2=>?_
 refine PS ?_;refine nx J1 (sr λ_ J2=>PS ?_);refine nx J2 (aa λ_ J3=>sr λ_ J4=>FA 29 ec e8 ?_);refine tp (aP (vs:=ints x.heir.toList) rfl ke rfl e8 rfl (RO 0) (dC x.heir) (R0 x 0 rfl (by decide) (whole (dC x.heir)))) ?_;refine PS ?_;refine nx J4 (av ?_)
 refine bz (α:=(Nat)×(Value)) (λ⟨k,u⟩=>k≤5∧u.oneCell'=true) (λ⟨k,u⟩=>[(1,(.int .i64 (who))),(4,(.slice none 0 0)),(5,u),(9,(.agg (ints x.heir.toList).toArray)),(10,(.int .i64 (((k:Nat):Int))))]) (λ⟨k,u⟩=>[own u ((jc x who k).length) (ints (jc x who k)) 3 1]) (λ⟨k,u⟩=>5-k) (0,(.slice none 0 0))
  ⟨aO _,rfl⟩ SB
  (λ_ s=>gI 3 1 (an [] rfl s)) (λ⟨k,u⟩ hinv=>?_)
 obtain⟨hk,hu⟩:=hinv;have hol:=IM x who k;refine sr λ_ J5=>PS ?_
 refine aq ?_ ?_<;>intro h11;refine nx J5 (aa λ_ J6=>CY (qx J6 (aa λ_ J7=>av (sr λ_ J8=>PS ?_))));refine tp (mM (cs:=ints x.heir.toList) (v:=Value.int .i64 (x.heir[k]'(by omega))) (r:=k) rfl ke Y3 rfl aR rfl rfl (by omega) (by omega) (by omega) (kN x.heir (by omega))) ?_;refine P2 ?_;refine nx J8 (sr λ_ J9=>P3 ?_);refine aq ?_ ?_<;>intro h16;refine PS ?_;refine UT ?_;refine UT ?_;refine PS ?_;refine nx J9 (CY (af (P2 ?_)));refine aT (cells:=#[(.int .i64 (((k:Nat):Int)))]) (ab rfl) rfl rfl rfl jx p2 rfl rfl rfl (by as_aux_lemma=>kernel_rfl) (λb23=>cF (k:=1) (news:=[(.int .i64 (((k:Nat):Int)))]) (nn':=(jc x who k).length+1) (xs':=ints (jc x who k)++[(.int .i64 (((k:Nat):Int)))]) (ab rfl) rfl rfl rfl jx p2 rfl rfl rfl rfl rfl rfl (λ_ _=>jB rfl (RO 0) rfl) (by simp[Value.oneCell']) (by simp only[maxLen];omega) (by omega) (by simp) (by simp) (λv24 ov24=>PS ?_));refine ax (ai (ae J7 (af (AD ?_))));refine PS ?_;refine ax ?_
 exact aM ((k+1,v24):(Nat)×(Value)) ⟨by omega,ov24⟩ (by show 5- (k+1)<5-k;omega)
  SB
  (λ_ s=>by
   show bH [own v24 (jc x who (k+1)).length (ints (jc x who (k+1))) 3 1] _;rw[show jc x who (k+1)=jc x who k++[((k:Nat):Int)]by rw[sN,if_pos (by rw[yc x who (by omega)];simp;omega)],ac,eC]
   exact an [1] rfl s)
 refine P3 ?_;refine aq ?_ ?_<;>intro h19;refine PS ?_;refine nx J9 (CY (af (P2 ?_)));refine aT (cells:=#[(.int .i64 (((k:Nat):Int)))]) (ab rfl) rfl rfl rfl jx p2 rfl rfl rfl (by as_aux_lemma=>kernel_rfl) (λb23=>cF (k:=1) (news:=[(.int .i64 (((k:Nat):Int)))]) (nn':=(jc x who k).length+1) (xs':=ints (jc x who k)++[(.int .i64 (((k:Nat):Int)))]) (ab rfl) rfl rfl rfl jx p2 rfl rfl rfl rfl rfl rfl (λ_ _=>jB rfl (RO 0) rfl) (by simp[Value.oneCell']) (by simp only[maxLen];omega) (by omega) (by simp) (by simp) (λv24 ov24=>PS ?_));refine ax (ai (ae J7 (af (AD ?_))));refine PS ?_;refine ax ?_
 exact aM ((k+1,v24):(Nat)×(Value)) ⟨by omega,ov24⟩ (by show 5- (k+1)<5-k;omega)
  SB
  (λ_ s=>by
   show bH [own v24 (jc x who (k+1)).length (ints (jc x who (k+1))) 3 1] _;rw[show jc x who (k+1)=jc x who k++[((k:Nat):Int)]by rw[sN,if_pos (by rw[yc x who (by omega)];simp;omega)],ac,eC]
   exact an [1] rfl s)
 refine PS ?_;refine nx J9 (CN (aV (ai (ae J7 (af (AD ?_))))));refine PS ?_;refine ax ?_
 exact aM ((k+1,u):(Nat)×(Value)) ⟨by omega,hu⟩ (by show 5- (k+1)<5-k;omega)
  SB
  (λ_ s=>by
   show bH [own u (jc x who (k+1)).length (ints (jc x who (k+1))) 3 1] _;rw[show jc x who (k+1)=jc x who k by rw[sN,if_neg (by rw[yc x who (by omega)];simp;omega),aL]]
   exact an [0] rfl s)
 refine nx J5 (aa λ_ J10=>CN (aX (aC (aC (bq (ae J3 (sr λ_ J11=>P2 ?_)))))));refine nx J11 (aj (WK [0] (aw rfl rfl ?_)));obtain rfl:k=5:=by omega
 exact⟨u,rfl,rfl⟩
theorem BI(x:RowT)(who of' key:Int):
 DT 60 #[(.agg (ints x.flat).toArray),(.int .i64 (who)),(.int .i64 (of')),(.int .i64 (key))] T0 [] (RI (.tuple #[.agg (ints (ju x who of' key).1.flat).toArray, .int .i64 (ju x who of' key).2]) []):=by
 refine BD 53 Tryz.func60 rfl rfl rfl λw0 F hF=>sr λ_ J1=>XY (ints x.flat) λb4=>?_
 refine XZ L8 (ints CellT.zero.flat) λb8=>?_
 refine PS ?_;refine nx J1 (aa λ_ J2=>sr λ_ J3=>PS ?_);refine CE MF (kE who) ID ?_;refine bh ?_ ?_<;>intro h11;refine PS ?_;refine P2 ?_;refine CE MF (kE of') ID ?_;refine bh ?_ ?_<;>intro h15;refine PS ?_;refine P4 ?_;refine aq ?_ ?_<;>intro h20;have hkb:na key=false:=decide_eq_false (by omega);refine P2 ?_;refine UT ?_;refine UT ?_;refine PS ?_;refine nx J3 (CY (sr λ_ J4=>BV ((ints CellT.zero.flat).toArray) ?_));refine SW 0 fN bu ?_;refine PS ?_;refine nx J4 (aj (ag (RT 0 [] nw fN (bu _) ?_)));exact⟨by simp[ju, *],rfl⟩;refine P4 ?_;refine aq ?_ ?_<;>intro h24;have hkb:na key=false:=decide_eq_false (by omega);refine PS ?_;refine nx J3 (CY (sr λ_ J5=>BV ((ints CellT.zero.flat).toArray) ?_));refine SW 0 fN bu ?_;refine PS ?_;refine nx J5 (aj (ag (RT 0 [] nw fN (bu _) ?_)));exact⟨by simp[ju, *],rfl⟩;have hw:cO who=true:=by simpa using h11
 have ho:cO of'=true:=by simpa using h15
 have hw2:0≤who∧who<5:=of_decide_eq_true hw;have ho2:0≤of'∧of'<5:=of_decide_eq_true ho;have hkb:na key=true:=decide_eq_true ⟨by omega,by omega⟩;have e1:fb x of'=x.heir[of'.toNat]'(by omega):=by rw[fb,dif_pos ho]
 have e2:B7 x of' key=(x.left[of'.toNat]'(by omega))[key.toNat]'(by omega):=by rw[B7,dif_pos ⟨ho,hkb⟩]
 have e3:dT x key=x.cells[key.toNat]'(by omega):=by rw[dT,dif_pos hkb]
 refine PS ?_;refine nx J3 (CN (qx J2 (aa λ_ J6=>sr λ_ J7=>P3 ?_)));refine aq ?_ ?_<;>intro h29;refine nx J7 (CY (aa λ_ J8=>D1 1 mixed ?_));refine PD 0 ?_;refine FD 1 1 ec ma ?_;refine IY 2 (1+key.toNat*7) CB fN ?_;refine ta 3 rfl (aP (vs:=ints (x.cells[key.toNat]'(by omega)).flat) rfl nw rfl fN rfl (λ_ h=>h.2.1) (bu (x.cells[key.toNat]'(by omega))) (Fh x (key.toNat*7) (by omega) (by omega) (k9 bD x.cells (i:=key.toNat) 0 (by omega) (by omega) (by decide) (whole (bu (x.cells[key.toNat]'(by omega))))))) ?_;refine FD 4 0 ec aR ?_;refine LR 5 Y3 (cB x rfl) ?_;refine AL 6 ?_;refine SW 0 fN bu ?_;refine EN (PD 7 ?_);refine DN (ae J8 (aj (ag (RT 0 [] nw fN (bu _) ?_))));exact⟨by simp[ju, *],rfl⟩;refine nx J7 (CN (qx J6 (aa λ_ J9=>sr λ_ J10=>PS ?_)));refine FA 29 ec e8 ?_;refine IX (29+(of').toNat) ke aR ?_;refine LT 1 Y3 (.int .i64 ((x.heir[(of').toNat]'(by omega)))) ?_ (hc:=by exact s9 x ((of').toNat) (by omega) (by omega) (kN x.heir (by omega)));refine PS ?_;refine aq ?_ ?_<;>intro h40;refine nx J10 (CY (aa λ_ J11=>D1 1 mixed ?_));refine PD 0 ?_;refine PD 1 ?_;refine FD 2 34 ec C9 ?_;refine IY 3 (34+((of').toNat)*28) N2 ma ?_;refine IY 4 (34+((of').toNat)*28+key.toNat*7) CB fN ?_
 refine ta 5 rfl (aP (vs:=ints ((x.left[(of').toNat]'(by omega))[key.toNat]'(by omega)).flat) rfl nw rfl fN rfl (λ_ h=>h.2.1) (bu ((x.left[(of').toNat]'(by omega))[key.toNat]'(by omega))) (HK x (((of').toNat)*28+key.toNat*7) (by omega) (by omega) (k9 uQ x.left (i:=(of').toNat) (key.toNat*7) (by omega) (by omega) (by omega) (k9 bD (x.left[(of').toNat]'(by omega)) (i:=key.toNat) 0 (by omega) (by omega) (by decide) (whole (bu ((x.left[(of').toNat]'(by omega))[key.toNat]'(by omega)))))))) ?_;refine PD 6 ?_;refine FD 7 29 ec e8 ?_;refine IY 8 (29+(of').toNat) ke aR ?_;refine LX 9 Y3 (.int .i64 ((x.heir[(of').toNat]'(by omega)))) ?_ (hc:=by exact s9 x ((of').toNat) (by omega) (by omega) (kN x.heir (by omega)));refine ta 10 rfl (jC (r:=(fR ((x.heir[(of').toNat]'(by omega))-1))) rfl rfl rfl rfl) ?_;refine AL 11 ?_;refine SW 0 fN bu ?_;refine EN (PD 12 ?_);refine DN (ae J11 (aj (ag (RT 0 [] nw fN (bu _) ?_))));exact⟨by simp[ju, *],rfl⟩;refine nx J10 (CN (qx J9 (sr λ_ J12=>BV ((ints CellT.zero.flat).toArray) ?_)));refine SW 0 fN bu ?_;refine PS ?_;refine nx J12 (aj (RT 0 [] nw fN (bu _) ?_));exact⟨by simp[ju, *],rfl⟩;refine PS ?_;refine P2 ?_;refine UT ?_;refine UT ?_;refine P2 ?_;refine UT ?_;refine UT ?_;refine PS ?_;refine nx J3 (CY (sr λ_ J13=>BV ((ints CellT.zero.flat).toArray) ?_));refine SW 0 fN bu ?_;refine PS ?_;refine nx J13 (aj (ag (RT 0 [] nw fN (bu _) ?_)));exact⟨by simp[ju, *],rfl⟩;refine PS ?_;refine PS ?_
 iterate 3 refine UT ?_
 refine P2 ?_;refine UT ?_;refine UT ?_;refine P2 ?_;refine UT ?_;refine UT ?_;refine PS ?_;refine nx J3 (CY (sr λ_ J14=>BV ((ints CellT.zero.flat).toArray) ?_));refine SW 0 fN bu ?_;refine PS ?_;refine nx J14 (aj (ag (RT 0 [] nw fN (bu _) ?_)));exact⟨by simp[ju, *],rfl⟩
theorem qw(who:Int):
 DT 127 #[(.int .i64 (who))] T0 [] (dA (λr' H=>∃u,r'=u∧H=[own u (iw who).length (ints (iw who)) 3 1])):=by
 refine BD 20 Tryz.func127 rfl rfl rfl λw0 F hF=>sr λ_ J1=>PS ?_
 refine nx J1 (aa λ_ J2=>sr λ_ J3=>PS ?_);refine CE D4 (kg who) ID ?_;refine bh ?_ ?_<;>intro h6;have hm:0≤who∧who<5:=of_decide_eq_true h6;refine PS ?_;refine nx J3 (CN (qx J2 (sr λ_ J4=>QI 3 1 (λon=>?_))));clear on;refine PS ?_;refine nx J4 (aa λ_ J5=>sr λ_ J6=>PS ?_);refine nx J6 (av (ou 3 (aa λ_ J7=>sr λ_ J8=>P2 ?_)));refine nx J8 (CY (qx J7 (aa λ_ J9=>av (af (P3 ?_)))));refine tp (cN (r:=(who+1)) rfl rfl rfl (bY (by omega) (by omega))) ?_;refine tp (St (r:=((who+1)%5)) rfl rfl rfl (by omega) (BM (by omega))) ?_;refine aT (cells:=#[(.int .i64 (((who+1)%5)))]) (ab rfl) rfl rfl rfl jx p2 rfl rfl rfl (by as_aux_lemma=>kernel_rfl) (λb17=>cF (k:=1) (news:=[(.int .i64 (((who+1)%5)))]) (nn':=1) (xs':=[(.int .i64 (((who+1)%5)))]) (ab rfl) rfl rfl rfl jx p2 rfl rfl rfl rfl rfl rfl (λ_ _=>jB rfl (RO 0) rfl) (by simp[Value.oneCell']) (by simp only[maxLen];omega) (by omega) (by simp) (by simp) (λv18 ov18=>PS ?_));refine ax (ai (ae J9 (af (PS ?_))));refine tp (cN (r:=2) rfl rfl rfl (by decide)) ?_;refine PS ?_;refine ax (eD (aa λ_ J10=>sr λ_ J11=>P2 ?_));refine nx J11 (CY (qx J10 (aa λ_ J12=>av (af (P3 ?_)))));refine tp (cN (r:=(who+2)) rfl rfl rfl (bY (by omega) (by omega))) ?_;refine tp (St (r:=((who+2)%5)) rfl rfl rfl (by omega) (BM (by omega))) ?_
 refine cz (H':=[own v18 (1) ([(.int .i64 (((who+1)%5)))]) 3 1]) (λ_ s=>an [1] rfl s) (aT (cells:=#[(.int .i64 (((who+2)%5)))]) (ab rfl) rfl rfl rfl jx p2 rfl rfl rfl (by as_aux_lemma=>kernel_rfl) (λb17=>cF (k:=1) (news:=[(.int .i64 (((who+2)%5)))]) (nn':=1+1) (xs':=[(.int .i64 (((who+1)%5)))]++[(.int .i64 (((who+2)%5)))]) (ab rfl) rfl rfl rfl jx p2 rfl rfl rfl rfl rfl rfl (λ_ _=>jB rfl (RO 0) rfl) (by simp[Value.oneCell']) (by simp only[maxLen];omega) (by omega) (by simp) (by simp) (λv18 ov18=>PS ?_)));refine ax (ai (ae J12 (af (PS ?_))));refine tp (cN (r:=3) rfl rfl rfl (by decide)) ?_;refine PS ?_;refine ax (eD (aa λ_ J13=>sr λ_ J14=>P2 ?_));refine nx J14 (CN (aX (aC (aC (bq (ae J5 (sr λ_ J15=>P2 ?_)))))));refine nx J15 (aj (WK [1] (aw rfl rfl ?_)));exact⟨_,rfl,by rw[iw,if_pos h6];rfl⟩;refine PS ?_;refine nx J3 (CY (sr λ_ J16=>PS ?_));refine nx J16 (aj (ag (aF (H':=[own (.slice none 0 0) 0 [] 3 1]) (dH _) (λ_ s=>gI 3 1 s) (aw rfl rfl ?_))));exact⟨_,rfl,by rw[iw,if_neg (by simp[h6])];rfl⟩
end Go.Proofs.YtfocodjhmkokpaaGreatDoor
end
