/- YtipbekclhmbclaaGreatDoorX05: walks and contracts. -/
import Derived.Test.YtipbekclhmbclaaGreatDoorX04
import Derived.Shelf.SlSortCmp.Insertion
import Derived.Shelf.Spec.SlicesInsertGrow
import Derived.Laws.CopyRow
import Derived.Shelf.GgSortFunc.InsertionK

set_option linter.unusedVariables false
set_option linter.unusedSimpArgs false
set_option linter.unusedSectionVars false

namespace Go.Abs
variable [Globals]
inductive Ex where
 |mk (kind n m:Int) (name:ByteArray) (value:Val) (key:Key) (kids:List Ex)
namespace Ex
def kind:Ex->Int|mk k _ _ _ _ _ _=>k
def n:Ex->Int|mk _ n _ _ _ _ _=>n
def m:Ex->Int|mk _ _ m _ _ _ _=>m
def name:Ex->ByteArray|mk _ _ _ s _ _ _=>s
def value:Ex->Val|mk _ _ _ _ v _ _=>v
def key:Ex->Key|mk _ _ _ _ _ k _=>k
def kids:Ex->List Ex|mk _ _ _ _ _ _ l=>l
end Ex
abbrev noKey:Key:=⟨0,⟨#[]⟩,⟨#[]⟩⟩
abbrev noEx:Ex:=.mk 0 0 0 ⟨#[]⟩ ⟨0,0,⟨#[]⟩⟩ ⟨0,⟨#[]⟩,⟨#[]⟩⟩ []
instance:Inhabited Ex:=⟨noEx⟩
mutual
def encE:Ex->List PV
 | .mk k n m s v q l=>[vint k,vint n,vint m,vstr s,vint v.kind,vint v.n,vstr v.s,vint q.dev,vstr q.cluster,vstr q.attr,.ro 11 l.length (encK l)]
/-- the cells of the kids -/
def encK:List Ex->Nat->List PV
 | [],_=>[]
 |e::_,0=>encE e
 |_::l,i+1=>encK l i
end
def cEx(e:Ex):List PV:=[vint e.kind,vint e.n,vint e.m,vstr e.name,vint e.value.kind,vint e.value.n,vstr e.value.s,vint e.key.dev,vstr e.key.cluster,vstr e.key.attr,.ro 11 e.kids.length (encK e.kids)]
theorem Zp9(e:Ex):encE e=cEx e:=by cases e;rfl
theorem Z9d:∀ {l:List Ex} {i:Nat},i<l.length->encK l i=cEx (l.getD i default)
 |e::l,0,_=>by rw[encK,Zp9];rfl
 |e::l,i+1,h=>by
  rw[encK,Z9d (l:=l) (by simpa using h)];rfl
theorem PSub.kids{l:List Ex}:PSub (.ro 11 l.length (encK l)) (roL 11 cEx l):=PSub.ro (Eq.refl _) fun i hi=>by rw[Z9d hi];exact PSubs.rfl
theorem PSub.kids'{l:List Ex}:PSub (roL 11 cEx l) (.ro 11 l.length (encK l)):=PSub.ro (Eq.refl _) fun i hi=>by rw[Z9d hi];exact PSubs.rfl
def cEx1(e:Ex):List PV:=[vint e.kind,vint e.n,vint e.m,vstr e.name,vint e.value.kind,vint e.value.n,vstr e.value.s,vint e.key.dev,vstr e.key.cluster,vstr e.key.attr,roL 11 cEx e.kids]
theorem PSub.ex1{e:Ex}:PSub (.agg (cEx e)) (.agg (cEx1 e)):=PSub.agg ⟨PSub.rfl,PSub.rfl,PSub.rfl,PSub.rfl,PSub.rfl,PSub.rfl,PSub.rfl,PSub.rfl,PSub.rfl,PSub.rfl,PSub.kids,trivial⟩
theorem PSub.ex1'{e:Ex}:PSub (.agg (cEx1 e)) (.agg (cEx e)):=PSub.agg ⟨PSub.rfl,PSub.rfl,PSub.rfl,PSub.rfl,PSub.rfl,PSub.rfl,PSub.rfl,PSub.rfl,PSub.rfl,PSub.rfl,PSub.kids',trivial⟩
structure ASub (x y:AV):Prop where
 to:∀(P:Program) (w:World) (St M:Nat->Prop) (σ:Sig) (v:Value),AR P w St M σ x v->AR P w St M σ y v
theorem ASub.rfl{x:AV}:ASub x x:=⟨fun _ _ _ _ _ _ h=>h⟩
theorem ASub.pv{p q:PV}(h:PSub p q):ASub (.pv p) (.pv q):=⟨fun _ _ _ _ _ _ k=>.pv _ _ (h.to _ _ _ (arg_pv k))⟩
def ASubs:List AV->List AV->Prop
 | [],[]=>True
 |x::xs,y::ys=>ASub x y∧ASubs xs ys
 |_,_=>False
theorem ASubs.get:∀ {xs ys:List AV},ASubs xs ys->xs.length=ys.length∧∀(i:Nat) (y:AV),ys[i]? = some y->∃x,xs[i]? = some x∧ASub x y
 | [],[],_=>⟨Eq.refl _,fun i y e=>by simp at e⟩
 |x::xs,y::ys,h=>by
  obtain⟨h1,h2⟩:=ASubs.get h.2;refine⟨by simp[h1],fun i z e=>?_⟩;cases i with
  |zero=>simp at e;subst e;exact⟨x,by simp,h.1⟩
  |succ i=>simpa using h2 i z (by simpa using e)
 | [],_::_,h=>h.elim
 |_::_,[],h=>h.elim
theorem AC.subA{P:Program}{f:FuncId}{xs ys:List AV}{os os':Upd}{res:AV}(h:AC P f ys os res os')(hs:ASubs xs ys):AC P f xs os res os':=by
 obtain⟨h1,h2⟩:=hs.get;refine⟨h.1,fun St M0 σ w vals hi hn ho hl ha=>h.2 St M0 σ w vals hi hn ho (by rw[hl,h1]) fun i y e=>?_⟩;obtain⟨x,hx,hxy⟩:=h2 i y e;exact hxy.to _ _ _ _ _ _ (ha i x hx)
theorem AC.ex{P:Program}{f:FuncId}{e:Ex}{r:List AV}{os os':Upd}{res:AV}(h:AC P f (.pv (.agg (cEx1 e))::r) os res os'):AC P f (.pv (.agg (cEx e))::r) os res os':=by
 have key:∀r:List AV,ASubs r r:=fun r=>by induction r with|nil=>trivial|cons x r ih=>exact⟨ASub.rfl,ih⟩
 exact h.subA ⟨ASub.pv PSub.ex1,key r⟩
theorem AC.ex'{P:Program}{f:FuncId}{e:Ex}{r:List AV}{os os':Upd}{res:AV}(h:AC P f (.pv (.agg (cEx e))::r) os res os'):AC P f (.pv (.agg (cEx1 e))::r) os res os':=by
 have key:∀r:List AV,ASubs r r:=fun r=>by induction r with|nil=>trivial|cons x r ih=>exact⟨ASub.rfl,ih⟩
 exact h.subA ⟨ASub.pv PSub.ex1',key r⟩
theorem AC.ex2{P:Program}{f:FuncId}{e:Ex}{x:AV}{r:List AV}{os os':Upd}{res:AV}(h:AC P f (x :: .pv (.agg (cEx1 e))::r) os res os'):AC P f (x :: .pv (.agg (cEx e))::r) os res os':=by
 have key:∀r:List AV,ASubs r r:=fun r=>by induction r with|nil=>trivial|cons x r ih=>exact⟨ASub.rfl,ih⟩
 exact h.subA ⟨ASub.rfl,ASub.pv PSub.ex1,key r⟩
theorem AC.ex2'{P:Program}{f:FuncId}{e:Ex}{x:AV}{r:List AV}{os os':Upd}{res:AV}(h:AC P f (x :: .pv (.agg (cEx e))::r) os res os'):AC P f (x :: .pv (.agg (cEx1 e))::r) os res os':=by
 have key:∀r:List AV,ASubs r r:=fun r=>by induction r with|nil=>trivial|cons x r ih=>exact⟨ASub.rfl,ih⟩
 exact h.subA ⟨ASub.rfl,ASub.pv PSub.ex1',key r⟩
theorem Ex.kid_lt{e:Ex}{k:Ex}(h:k∈e.kids):SizeOf.sizeOf k<SizeOf.sizeOf e:=by
 obtain⟨a,b,c,d,v,q,l⟩:=e;have:=List.sizeOf_lt_of_mem (show k∈l from h);simp only[Ex.mk.sizeOf_spec];omega
theorem Ex.kid_at{l:List Ex}{i:Nat}(h:i<l.length):l.getD i default∈l:=by
 have:l.getD i default=l[i]:=by simp[List.getD,h]
 rw[this];exact qE h
def kidsB(k n:Int):Bool:=
 if k=6 then decide (n=1)else if k=7∨k=8 then decide (2<=n)&&decide (n<=8)else if 9<=k∧k<=13 then decide (n=2)else if k=14 then decide (n=3)else decide (n=0)
def spareB(e:Ex):Bool:=
 decide (((e.kind≠4∧e.kind≠5∧e.kind≠15)∧e.n≠0)∨(e.kind≠4∧e.m≠0)∨(e.kind≠3∧e.name≠⟨#[]⟩)∨(e.kind≠1∧e.value≠noVal)∨(e.kind≠2∧e.key≠noKey))
def rangeB(e:Ex):Bool:=
 if e.kind=4 then decide (0<=e.n∧e.n<1440∧0<=e.m∧e.m<1440)else if e.kind=5 then decide (1<=e.n∧e.n<=127)else if e.kind=15 then decide (0<=e.n∧e.n<=4)
 else if e.kind=2 then decide (1<=e.key.dev∧e.key.dev<=250)else true
def nodeE(e:Ex):Int:=
 if e.kind<1∨15<e.kind then 7 else if kidsB e.kind e.kids.length=false∨spareB e=true then 1 else if rangeB e=false then 2
 else if e.kind=3 then(if validName e.name then 0 else 10)
 else if e.kind=2 then(if validName e.key.cluster&&validName e.key.attr then 0 else 10)
 else if e.kind=1 then(if valE e.value≠0 then valE e.value else if e.value.kind=0 then 7 else 0)
 else 0
mutual
/-- expr.Check: from the level l and the count c: the count and the error -/
def chkE:Ex->Int->Int->Int×Int
 | .mk a n m s v q ks,l,c=>
  if 24<l then(c+1,22)else if 200<c+1 then(c+1,3)else if nodeE (.mk a n m s v q ks)≠0 then(c+1,nodeE (.mk a n m s v q ks))else chkL ks (l+1) (c+1)
def chkL:List Ex->Int->Int->Int×Int
 | [],_,c=>(c,0)
 |e::es,l,c=>if(chkE e l c).2≠0 then chkE e l c else chkL es l (chkE e l c).1
end
theorem Zom(e:Ex)(l c:Int):chkE e l c=if 24<l then(c+1,22)else if 200<c+1 then(c+1,3)else if nodeE e≠0 then(c+1,nodeE e)else chkL e.kids (l+1) (c+1):=by
 cases e;rw[chkE];rfl
mutual
theorem chkE_b:∀(e:Ex) (l c:Int),0<=c->c<=200->0<=(chkE e l c).1∧(chkE e l c).1<=201∧((chkE e l c).2=0->(chkE e l c).1<=200)
 | .mk a n m s v q ks,l,c,h0,h1=>by
  rw[chkE];split
  ·exact⟨by dsimp only;omega,by dsimp only;omega,fun h=>by cases h⟩
  split
  ·exact⟨by dsimp only;omega,by dsimp only;omega,fun h=>by cases h⟩
  split
  ·rename_i h;exact⟨by dsimp only;omega,by dsimp only;omega,fun h2=>absurd h2 h⟩
  exact chkL_b ks (l+1) (c+1) (by omega) (by omega)
theorem chkL_b:∀(ks:List Ex) (l c:Int),0<=c->c<=200->0<=(chkL ks l c).1∧(chkL ks l c).1<=201∧((chkL ks l c).2=0->(chkL ks l c).1<=200)
 | [],l,c,h0,h1=>by rw[chkL];exact⟨h0,by dsimp only;omega,fun _=>h1⟩
 |e::es,l,c,h0,h1=>by
  obtain⟨h2,h3,h4⟩:=chkE_b e l c h0 h1;rw[chkL];split
  ·exact⟨h2,h3,h4⟩
  rename_i h;exact chkL_b es l _ h2 (h4 (by simpa using h))
end
theorem Z7e{e:Ex}(h:nodeE e=0):e.kids.length<=8:=by
 have h2:kidsB e.kind e.kids.length=true:=by
  cases hb:kidsB e.kind e.kids.length with
  |true=>rfl
  |false=>rw[nodeE,hb]at h;split at h<;>simp at h
 unfold kidsB at h2;(repeat' split at h2)<;>simp only[Q0,qc]at h2<;>omega
theorem Z48{α:Type}[Inhabited α]{l:List α}{k:Nat}(h:k<l.length):l.drop k=l.getD k default::l.drop (k+1):=by
 rw[List.drop_eq_getElem_cons h];simp[List.getD,h]
def exE(e:Ex):Int:=(chkE e 1 0).2
mutual
def sizeE:Ex->Nat
 | .mk _ _ _ _ _ _ ks=>1+sizeL ks
def sizeL:List Ex->Nat
 | []=>0
 |e::es=>sizeE e+sizeL es
end
theorem Z26(e:Ex):sizeE e=1+sizeL e.kids:=by cases e;rw[sizeE];rfl
end Go.Abs
namespace Go.Abs
structure Sco where
 home:Hom
 modes:List ByteArray
 scenes:List ByteArray
 deriving Inhabited
def cSco(s:Sco):List PV:=[roL 4 cClu s.home.clusters,roL 7 cDev s.home.devices,roL 1 cstr s.modes,roL 1 cstr s.scenes]
def smallS(s:Sco):Prop:=smallH s.home∧smallL s.modes∧smallL s.scenes
def leafK(s:Sco)(kind:Int)(name:ByteArray)(value:Val)(key:Key):Int×Int:=
 if kind=1 then(value.kind,0)else if kind=2 then(if(findA s.home key).isSome=true then(((findA s.home key).getD noAttr).kind,0)else(0,8))
 else if kind=3∧idxOf s.modes name<0 then(0,8)else(1,0)
def allI(l:List Int)(k:Int):Bool:=l.all fun x=>decide (x=k)
def opK(k:Int)(l:List Int):Int×Int:=
 if k=6∨k=7∨k=8 then(if allI l 1=true then(1,0)else(0,11))
 else if k=9 then(if l.getD 0 default=l.getD 1 default then(1,0)else(0,11))
 else if k=10 then(if allI l 2=true then(1,0)else(0,11))
 else if k=14 then(if l.getD 0 default=1∧l.getD 1 default=l.getD 2 default then(l.getD 1 default,0)else(0,11))
 else(if allI l 2=true then(2,0)else(0,11))
mutual
def kindE(s:Sco):Ex->Int×Int
 | .mk k _ _ nm v q ks=>match ks with
  | []=>leafK s k nm v q
  |e::es=>match kindL s (e::es)with
   | .inl x=>(0,x)
   | .inr l=>opK k l
def kindL(s:Sco):List Ex->Int ⊕ List Int
 | []=>.inr []
 |e::es=>if(kindE s e).2≠0 then .inl (kindE s e).2 else match kindL s es with
  | .inl x=>.inl x
  | .inr l=>.inr ((kindE s e).1::l)
end
theorem Z3j{s:Sco}{e:Ex}(h:e.kids.length=0):kindE s e=leafK s e.kind e.name e.value e.key:=by
 obtain⟨k,n,m,nm,v,q,ks⟩:=e;have:ks = []:=List.length_eq_zero_iff.1 h;subst this;rw[kindE];rfl
theorem Z5i{s:Sco}{e:Ex}(h:e.kids.length≠0):kindE s e=(match kindL s e.kids with | .inl x=>(0,x) | .inr l=>opK e.kind l):=by
 obtain⟨k,n,m,nm,v,q,ks⟩:=e;cases ks with
 |nil=>exact absurd rfl h
 |cons e es=>rw[kindE];rfl
def KTo(s:Sco)(ks:List Ex)(k:Nat)(acc:List Int):Prop:=acc.length=k∧kindL s ks=match kindL s (ks.drop k)with | .inl x=>.inl x | .inr r=>.inr (acc++r)
theorem KTo.zero(s:Sco)(ks:List Ex):KTo s ks 0 []:=⟨rfl,by simp only[List.drop_zero,List.nil_append];cases kindL s ks<;>rfl⟩
theorem KTo.err{s:Sco}{ks:List Ex}{k:Nat}{acc:List Int}(h:KTo s ks k acc)(hk:k<ks.length)(he:(kindE s (ks.getD k default)).2≠0):kindL s ks = .inl (kindE s (ks.getD k default)).2:=by
 have h2:=h.2;rw[Z48 hk,kindL,qK he]at h2;exact h2
theorem KTo.next{s:Sco}{ks:List Ex}{k:Nat}{acc:List Int}(h:KTo s ks k acc)(hk:k<ks.length)(he:(kindE s (ks.getD k default)).2=0):KTo s ks (k+1) (acc ++ [(kindE s (ks.getD k default)).1]):=by
 have h2:=h.2;rw[Z48 hk,kindL,qJ (by simpa using he)]at h2;refine⟨by simp[h.1],h2.trans ?_⟩;cases kindL s (ks.drop (k+1))<;>simp
theorem KTo.done{s:Sco}{ks:List Ex}{k:Nat}{acc:List Int}(h:KTo s ks k acc)(hk:ks.length<=k):kindL s ks = .inr acc:=by
 have h2:=h.2;rw[List.drop_of_length_le hk,kindL]at h2;simpa using h2
mutual
/-- the right numbers of kids all over -/
def okE:Ex->Prop
 | .mk k _ _ _ _ _ ks=>(1<=k∧k<=15)∧kidsB k ks.length=true∧okL ks
def okL:List Ex->Prop
 | []=>True
 |e::es=>okE e∧okL es
end
theorem Zgg(e:Ex):okE e↔(1<=e.kind∧e.kind<=15)∧kidsB e.kind e.kids.length=true∧okL e.kids:=by cases e;rw[okE];rfl
theorem okL_at:∀ {l:List Ex} {k:Nat},okL l->k<l.length->okE (l.getD k default)
 |e::l,0,h,_=>by rw[okL]at h;exact h.1
 |e::l,k+1,h,hk=>by rw[okL]at h;exact okL_at (l:=l) h.2 (by simpa using hk)
theorem Zgc{e:Ex}(h:nodeE e=0):(1<=e.kind∧e.kind<=15)∧kidsB e.kind e.kids.length=true:=by
 unfold nodeE at h
 split at h
 ·cases h
 rename_i h1
 split at h
 ·cases h
 rename_i h2;exact⟨by omega,by cases hb:kidsB e.kind e.kids.length<;>simp_all⟩
mutual
theorem chk_ok:∀(e:Ex) (l c:Int),(chkE e l c).2=0->okE e
 | .mk a n m s v q ks,l,c,h=>by
  rw[chkE]at h
  split at h
  ·cases h
  split at h
  ·cases h
  split at h
  ·rename_i h3;exact absurd h h3
  rename_i h3;have h4:=Zgc (e:=.mk a n m s v q ks) (by simpa using h3);rw[okE];exact⟨h4.1,h4.2,Zdk ks _ _ h⟩
theorem Zdk:∀(ks:List Ex) (l c:Int),(chkL ks l c).2=0->okL ks
 | [],l,c,_=>by rw[okL];trivial
 |e::es,l,c,h=>by
  rw[chkL]at h;rw[okL]
  split at h
  ·rename_i h1;exact absurd h h1
  rename_i h1;exact⟨chk_ok e l c (by simpa using h1),Zdk es l _ h⟩
end
theorem exE_ok{e:Ex}(h:exE e=0):okE e:=chk_ok e 1 0 h
def exprK(s:Sco)(e:Ex):Int×Int:=if exE e≠0 then(0,exE e)else kindE s e
structure Evt where
 dev:Int
 cluster:ByteArray
 name:ByteArray
 deriving Inhabited,DecidableEq
abbrev noEvt:Evt:=⟨0,⟨#[]⟩,⟨#[]⟩⟩
structure Trg where
 kind:Int
 key:Key
 event:Evt
 name:ByteArray
 n:Int
 m:Int
 deriving Inhabited,DecidableEq
structure Stp where
 kind:Int
 key:Key
 name:ByteArray
 expr:Ex
 deriving Inhabited
structure Rul where
 name:ByteArray
 prio:Int
 on:List Trg
 cond:Ex
 steps:List Stp
 deriving Inhabited
def cTrg(t:Trg):List PV:=[vint t.kind,vint t.key.dev,vstr t.key.cluster,vstr t.key.attr,vint t.event.dev,vstr t.event.cluster,vstr t.event.name,vstr t.name,vint t.n,vint t.m]
def cStp(x:Stp):List PV:=vint x.kind::vint x.key.dev::vstr x.key.cluster::vstr x.key.attr::vstr x.name::cEx x.expr
def cRul(r:Rul):List PV:=vstr r.name::vint r.prio::roL 10 cTrg r.on ::(cEx r.cond ++ [roL 16 cStp r.steps])
def zeroX(e:Ex):Bool:=decide (e.kind=0∧e.n=0∧e.m=0∧e.name=⟨#[]⟩∧e.value=noVal∧e.key=noKey∧e.kids.length=0)
def cEx0:List PV:=[vint 0,vint 0,vint 0,vstr ⟨#[]⟩,vint 0,vint 0,vstr ⟨#[]⟩,vint 0,vstr ⟨#[]⟩,vstr ⟨#[]⟩,.val (.slice none 0 0)]
def wordsE(l:List ByteArray):Int:=firstE l.length fun i=>if validName (l.getD i default)=false then 10 else if idxOf l (l.getD i default)<i then 9 else 0
def scoE(s:Sco):Int:=
 if homE s.home≠0 then homE s.home else if s.modes.length<1∨16<s.modes.length then 3 else if wordsE s.modes≠0 then wordsE s.modes else if 256<s.scenes.length then 3 else wordsE s.scenes
def trgSpare(t:Trg):Bool:=
 decide ((t.kind=1∨t.key=noKey)∧(t.kind=2∨t.event=noEvt)∧(t.kind=4∨t.name=⟨#[]⟩)∧(t.kind=3∨t.kind=6∨t.n=0)∧(t.kind=3∨t.m=0))
def namedE(dev:Int)(a b:ByteArray):Int:=if dev<1∨250<dev then 2 else if validName a&&validName b then 0 else 10
def trgE(t:Trg):Int:=
 if t.kind<1∨6<t.kind then 7 else if trgSpare t=false then 1
 else if t.kind=1 then namedE t.key.dev t.key.cluster t.key.attr
 else if t.kind=2 then namedE t.event.dev t.event.cluster t.event.name
 else if t.kind=3 then(if t.n<0∨1440<=t.n∨t.m<1∨127<t.m then 2 else 0)
 else if t.kind=6 then(if t.n<0∨1099511627776<t.n then 2 else 0)
 else if t.kind=4 then(if t.name≠⟨#[]⟩∧validName t.name=false then 10 else 0)else 0
def stpE(x:Stp):Int:=
 if x.kind=1 then(if x.name≠⟨#[]⟩then 1 else if namedE x.key.dev x.key.cluster x.key.attr≠0 then namedE x.key.dev x.key.cluster x.key.attr else exE x.expr)
 else if x.kind=2 then(if x.key.attr≠⟨#[]⟩then 1 else if namedE x.key.dev x.key.cluster x.name≠0 then namedE x.key.dev x.key.cluster x.name else if zeroX x.expr=true then 0 else exE x.expr)
 else if x.kind=3∨x.kind=4∨x.kind=5 then(if x.key≠noKey∨zeroX x.expr=false then 1 else if x.kind=5 then(if 60<x.name.size then 3 else 0)else if validName x.name=false then 10 else 0)
 else 7
def rulE(r:Rul):Int:=
 if validName r.name=false then 10 else if r.prio<0∨100<r.prio then 2
 else if r.on.length<1∨8<r.on.length∨r.steps.length<1∨8<r.steps.length then 3
 else if firstE r.on.length (fun i=>trgE (r.on.getD i default))≠0 then firstE r.on.length fun i=>trgE (r.on.getD i default)
 else if exE r.cond≠0 then exE r.cond else firstE r.steps.length fun i=>stpE (r.steps.getD i default)
theorem Zdc:∀(x y:List UInt8),Op.bytesLess x y=true↔x<y
 | [],[]=>by simp[Op.bytesLess]
 | [],_::_=>by simp[Op.bytesLess]
 |_::_,[]=>by simp[Op.bytesLess]
 |a::x,b::y=>by
  have ih:=Zdc x y;simp only[Op.bytesLess,List.cons_lt_cons_iff]
  by_cases h1:a<b
  ·simp[h1]
  by_cases h2:a=b
  ·subst h2;simp[ih]
  simp[h1,h2,ih]
  try(intro h3;exact h2 (UInt8.le_antisymm (UInt8.not_lt.1 h3) (UInt8.not_lt.1 h1)))
def sLt(a b:ByteArray):Bool:=Op.bytesLess a.toList b.toList
theorem Z5z{a b:ByteArray}:sLt a b=true↔a.data.toList<b.data.toList:=by
 unfold sLt;rw[Zdc,ByteArray.toList_eq,ByteArray.toList_eq]
theorem Z1r(a:ByteArray):sLt a a=false:=by
 rw[<-Bool.not_eq_true,Z5z];exact List.lt_irrefl _
theorem Z30{a b c:ByteArray}(h:sLt a b=true)(k:sLt b c=true):sLt a c=true:=by
 rw[Z5z]at *;exact List.lt_trans h k
theorem Zb1{a b:ByteArray}(h:sLt a b=true):sLt b a=false:=by
 rw[<-Bool.not_eq_true];intro k;have:=Z30 h k;rw[Z1r]at this;cases this
theorem Z24{a b:ByteArray}(h:a≠b):sLt a b=true∨sLt b a=true:=by
 rw[Z5z,Z5z];rcases Classical.em (a.data.toList<b.data.toList)with h1|h1
 ·exact .inl h1
 rcases Classical.em (b.data.toList<a.data.toList)with h2|h2
 ·exact .inr h2
 exfalso;apply h;have:=List.le_antisymm (List.not_lt.1 h1) (List.not_lt.1 h2);cases a;cases b;congr 1;exact(Array.toList_inj.1 this).symm
open Go.Proofs
set_option maxRecDepth 10000
theorem Z79(a b:Key):keyLess a b=if a.dev≠b.dev then decide (a.dev<b.dev)else if a.cluster≠b.cluster then sLt a.cluster b.cluster else sLt a.attr b.attr:=rfl
theorem Z15(a:Key):keyLess a a=false:=by
 rw[Z79];simp[Z1r]
theorem Z20{a b:Key}(h:a≠b):keyLess a b=true∨keyLess b a=true:=by
 rw[Z79,Z79]
 by_cases h1:a.dev=b.dev
 ·by_cases h2:a.cluster=b.cluster
  ·by_cases h3:a.attr=b.attr
   ·exfalso;apply h;cases a;cases b;simp_all
   simp[h1,h2];exact Z24 h3
  simp[h1,h2,Ne.symm h2];exact Z24 h2
 simp[h1,Ne.symm h1];omega
theorem Z3h{a b c:Key}(h:keyLess a b=true)(k:keyLess b c=true):keyLess a c=true:=by
 rw[Z79]at *
 by_cases h1:a.dev=b.dev<;>by_cases k1:b.dev=c.dev
 ·by_cases h2:a.cluster=b.cluster<;>by_cases k2:b.cluster=c.cluster
  ·simp_all;exact Z30 h k
  ·simp_all
  ·have:a.cluster≠c.cluster:=fun e=>h2 (e.trans k2.symm)
   simp_all
  have h3:sLt a.cluster b.cluster=true:=by simp_all
  have k3:sLt b.cluster c.cluster=true:=by simp_all
  have t:=Z30 h3 k3;have:a.cluster≠c.cluster:=fun e=>by rw[e,Z1r]at t;cases t
  simp[h1,k1,this];exact t
 ·simp[h1,k1]at h k ⊢;exact k
 ·have:a.dev≠c.dev:=fun e=>h1 (e.trans k1.symm)
  simp[h1]at h;simp[this];omega
 simp[h1]at h;simp[k1]at k;have:a.dev≠c.dev:=by omega
 simp[this];omega
theorem key_eq(a b:Key):(decide (a.dev=b.dev)&&(decide (a.cluster=b.cluster)&&(decide (a.attr=b.attr)&&true)))=decide (a=b):=by
 obtain⟨a1,a2,a3⟩:=a;obtain⟨b1,b2,b3⟩:=b;rw[qt];simp
theorem Z3x(a:Val):(decide (a.kind=0)&&(decide (a.n=0)&&decide (a.s=⟨#[]⟩)))=decide (a=noVal):=by have:=val_eq a noVal;simp only[Bool.and_true]at this;exact this
theorem Z3i(a:Key):(decide (a.dev=0)&&(decide (a.cluster=⟨#[]⟩)&&decide (a.attr=⟨#[]⟩)))=decide (a=noKey):=by have:=key_eq a noKey;simp only[Bool.and_true]at this;exact this
theorem Zju(k n:Int):AC Tryz.prog 207 [.pv (vint k),.pv (vint n)] [] (.pv (vbool (kidsB k n))) []:=by
 refine AC.of_awp (T:=T) T_ok hm Tryz.call207 Tryz.func207 rfl rfl rfl ?_
 conv=>whnf
 repeat(any_goals((first|refine QB ?_ ?_<;>intro h<;>(try simp only[Q0,Q1,Q2,Q3,Q4,Q5,Q6,Q7,Q8,reduceCtorEq]at h))<;>conv=>whnf))
 all_goals first
  |contradiction
  |(exfalso;omega)
  |exact PSub.rfl
  |(refine PSub.lit_sb ?_;(first|(simp[kidsB, *];done)|(simp_all[kidsB];done)|((try simp only[kidsB]);(repeat' split)<;>(try simp only[qh,qj,qd,Q1,qc,Q0,Q6])<;>first|rfl|omega|(simp_all;done)|(simp_all;omega))))
  |(refine PSub.sb ?_;(first|(simp[kidsB, *];done)|(simp_all[kidsB];done)|((try simp only[kidsB]);(repeat' split)<;>(try simp only[qh,qj,qd,Q1,qc,Q0,Q6])<;>first|rfl|omega|(simp_all;done)|(simp_all;omega))))
  |(refine PSub.sb_lit ?_;(first|(simp[kidsB, *];done)|(simp_all[kidsB];done)|((try simp only[kidsB]);(repeat' split)<;>(try simp only[qh,qj,qd,Q1,qc,Q0,Q6])<;>first|rfl|omega|(simp_all;done)|(simp_all;omega))))
  |(refine PSub.int ?_;(first|(simp[kidsB, *];done)|(simp_all[kidsB];done)|((try simp only[kidsB]);(repeat' split)<;>(try simp only[qh,qj,qd,Q1,qc,Q0,Q6])<;>first|rfl|omega|(simp_all;done)|(simp_all;omega))))
  |skip
theorem Zjx(e:Ex):AC Tryz.prog 208 [.pv (.agg (cEx e))] [] (.pv (vbool (spareB e))) []:=by
 refine AC.of_awp (T:=T) T_ok hm Tryz.call208 Tryz.func208 rfl rfl rfl ?_
 conv=>whnf
 repeat(any_goals((first|refine QB ?_ ?_<;>intro h<;>(try simp only[Q0,Q1,Q2,Q3,Q4,Q5,Q6,Q7,Q8,reduceCtorEq]at h))<;>conv=>whnf))
 all_goals(try simp only[Z3x,Z3i,decide_true,Bool.and_true,Q1,Q0]at *)
 all_goals first
  |contradiction
  |(exfalso;omega)
  |exact PSub.rfl
  |(refine PSub.lit_sb ?_;(first|(simp[spareB, *];done)|(simp_all[spareB];done)|((try simp only[spareB]);(repeat' split)<;>(try simp only[qh,qj,qd,Q1,qc,Q0,Q6])<;>first|rfl|omega|(simp_all;done)|(simp_all;omega))))
  |(refine PSub.sb ?_;(first|(simp[spareB, *];done)|(simp_all[spareB];done)|((try simp only[spareB]);(repeat' split)<;>(try simp only[qh,qj,qd,Q1,qc,Q0,Q6])<;>first|rfl|omega|(simp_all;done)|(simp_all;omega))))
  |(refine PSub.sb_lit ?_;(first|(simp[spareB, *];done)|(simp_all[spareB];done)|((try simp only[spareB]);(repeat' split)<;>(try simp only[qh,qj,qd,Q1,qc,Q0,Q6])<;>first|rfl|omega|(simp_all;done)|(simp_all;omega))))
  |(refine PSub.int ?_;(first|(simp[spareB, *];done)|(simp_all[spareB];done)|((try simp only[spareB]);(repeat' split)<;>(try simp only[qh,qj,qd,Q1,qc,Q0,Q6])<;>first|rfl|omega|(simp_all;done)|(simp_all;omega))))
  |skip
theorem Zjw(e:Ex):AC Tryz.prog 209 [.pv (.agg (cEx e))] [] (.pv (vbool (rangeB e))) []:=by
 refine AC.of_awp (T:=T) T_ok hm Tryz.call209 Tryz.func209 rfl rfl rfl ?_
 conv=>whnf
 repeat(any_goals((first|refine QB ?_ ?_<;>intro h<;>(try simp only[Q0,Q1,Q2,Q3,Q4,Q5,Q6,Q7,Q8,reduceCtorEq]at h))<;>conv=>whnf))
 all_goals first
  |contradiction
  |(exfalso;omega)
  |exact PSub.rfl
  |(refine PSub.lit_sb ?_;(first|(simp[rangeB, *];done)|(simp_all[rangeB];done)|((try simp only[rangeB]);(repeat' split)<;>(try simp only[qh,qj,qd,Q1,qc,Q0,Q6])<;>first|rfl|omega|(simp_all;done)|(simp_all;omega))))
  |(refine PSub.sb ?_;(first|(simp[rangeB, *];done)|(simp_all[rangeB];done)|((try simp only[rangeB]);(repeat' split)<;>(try simp only[qh,qj,qd,Q1,qc,Q0,Q6])<;>first|rfl|omega|(simp_all;done)|(simp_all;omega))))
  |(refine PSub.sb_lit ?_;(first|(simp[rangeB, *];done)|(simp_all[rangeB];done)|((try simp only[rangeB]);(repeat' split)<;>(try simp only[qh,qj,qd,Q1,qc,Q0,Q6])<;>first|rfl|omega|(simp_all;done)|(simp_all;omega))))
  |(refine PSub.int ?_;(first|(simp[rangeB, *];done)|(simp_all[rangeB];done)|((try simp only[rangeB]);(repeat' split)<;>(try simp only[qh,qj,qd,Q1,qc,Q0,Q6])<;>first|rfl|omega|(simp_all;done)|(simp_all;omega))))
  |skip
theorem Zjv(e:Ex):AC Tryz.prog 146 [.pv (.agg (cEx e))] [] (.pv (vint (nodeE e))) []:=by
 refine AC.of_awp (T:=T) T_ok hm Tryz.call146 Tryz.func146 rfl rfl rfl ?_
 conv=>whnf
 repeat(any_goals((first|refine QB ?_ ?_<;>intro h<;>(try simp only[Q0,Q1,Q2,Q3,Q4,Q5,Q6,Q7,Q8,reduceCtorEq]at h)|refine .inl ⟨_,Zju e.kind e.kids.length,?_⟩|refine .inl ⟨_,Zjx e,?_⟩|refine .inl ⟨_,Zjw e,?_⟩|refine .inl ⟨_,Z0t e.name,?_⟩|refine .inl ⟨_,Z0t e.key.cluster,?_⟩|refine .inl ⟨_,Z0t e.key.attr,?_⟩|refine .inl ⟨_,Z8o e.value,?_⟩)<;>conv=>whnf))
 all_goals first
  |contradiction
  |(exfalso;omega)
  |exact PSub.rfl
  |(refine PSub.lit_sb ?_;(first|(simp[nodeE, *];done)|(simp_all[nodeE];done)|((try simp only[nodeE]);(repeat' split)<;>(try simp only[qh,qj,qd,Q1,qc,Q0,Q6])<;>first|rfl|omega|(simp_all;done)|(simp_all;omega))))
  |(refine PSub.sb ?_;(first|(simp[nodeE, *];done)|(simp_all[nodeE];done)|((try simp only[nodeE]);(repeat' split)<;>(try simp only[qh,qj,qd,Q1,qc,Q0,Q6])<;>first|rfl|omega|(simp_all;done)|(simp_all;omega))))
  |(refine PSub.sb_lit ?_;(first|(simp[nodeE, *];done)|(simp_all[nodeE];done)|((try simp only[nodeE]);(repeat' split)<;>(try simp only[qh,qj,qd,Q1,qc,Q0,Q6])<;>first|rfl|omega|(simp_all;done)|(simp_all;omega))))
  |(refine PSub.int ?_;(first|(simp[nodeE, *];done)|(simp_all[nodeE];done)|((try simp only[nodeE]);(repeat' split)<;>(try simp only[qh,qj,qd,Q1,qc,Q0,Q6])<;>first|rfl|omega|(simp_all;done)|(simp_all;omega))))
  |skip
def visE(e:Ex)(l c:Int):Int:=if 24<l then 22 else if 200<c+1 then 3 else nodeE e
theorem Zjt(e:Ex)(l c f:Int)(hc:0<=c∧c<=200):AC Tryz.prog 145 [.pv (.agg (cEx e)),.pv (vint l),.ptr 900000 0,.ptr 900001 0] [(900000,.pbox [vint c]),(900001,.pbox [vint f])]
  (.pv (vbool (decide (visE e l c=0)))) [(900000,.pbox [vint (c+1)]),(900001,.pbox [vint (visE e l c)])]:=by
 refine AC.of_awp_gen (T:=T) T_ok hm Tryz.call145 Tryz.func145 rfl rfl rfl rfl rfl rfl ?_
 conv=>whnf
 refine .inl ⟨wrap64 (by omega),?_⟩
 conv=>whnf
 repeat(any_goals((first|refine QB ?_ ?_<;>intro h<;>(try simp only[Q0,Q1,Q2,Q3,Q4,Q5,Q6,Q7,Q8,reduceCtorEq]at h)|refine .inl ⟨_,Zjv e,?_⟩)<;>conv=>whnf))
 ·rw[show visE e l c=22 from by simp[visE,h]];refine⟨[],?_⟩
  conv=>whnf
  all_goals exact QD
 ·rename_i h1;rw[show visE e l c=3 from by simp only[visE,qJ h1,qK h]];refine⟨[],?_⟩
  conv=>whnf
  all_goals exact QD
 rename_i h1;rw[show visE e l c=nodeE e from by simp only[visE,qJ h1,qJ h]];refine⟨[],?_⟩
 conv=>whnf
 all_goals exact QD
theorem Zon(e:Ex)(l c:Int):chkE e l c=if visE e l c=0 then chkL e.kids (l+1) (c+1)else(c+1,visE e l c):=by
 rw[Zom,visE]
 by_cases h1:24<l
 ·simp[h1]
 by_cases h2:200<c+1
 ·simp[h1,h2]
 simp only[qJ h1,qJ h2]
 by_cases h3:nodeE e=0
 ·simp[h3]
 simp[h3]
abbrev chkO(c f:Int):Upd:=[(900000,.box [.fn 145 [.ptr 900002 0,.ptr 900003 0]]),(900001,.box [.fn 206 [.ptr 900000 0,.ptr 900001 0]]),(900002,.pbox [vint c]),(900003,.pbox [vint f])]
theorem Zbt(e:Ex)(l c f:Int)(hl:0<=l∧l<=25)(hc:0<=c∧c<=200):AC Tryz.prog 206 [.pv (.agg (cEx e)),.pv (vint l),.ptr 900000 0,.ptr 900001 0] (chkO c f) (.pv (vbool (decide ((chkE e l c).2=0)))) (chkO (chkE e l c).1 (chkE e l c).2):=by
 have ih:∀k l c f,k<e.kids.length->0<=l∧l<=25->0<=c∧c<=200->AC Tryz.prog 206 [.pv (.agg (cEx (e.kids.getD k default))),.pv (vint l),.ptr 900000 0,.ptr 900001 0] (chkO c f) (.pv (vbool (decide ((chkE (e.kids.getD k default) l c).2=0)))) (chkO (chkE (e.kids.getD k default) l c).1 (chkE (e.kids.getD k default) l c).2):=fun k l c f hk hl hc=>
  have:=Ex.kid_lt (Ex.kid_at hk)
  Zbt (e.kids.getD k default) l c f hl hc
 have heq:=Zon e l c;refine AC.ex ?_;refine AC.of_awp_gen (T:=T) T_ok hm Tryz.call206 Tryz.func206 rfl rfl rfl rfl rfl rfl ?_
 conv=>whnf
 refine .inr (.inr (.inr (.inr ⟨[(900000,900002),(900001,900003)],[],_,_,_,(Zjt e l c f hc).ex',rfl,?_⟩)))
 conv=>whnf
 refine⟨fun h=>?_,fun h=>?_⟩<;>(try simp only[Q0,Q1,Q2,Q3,Q4,Q5,Q6,Q7,Q8,reduceCtorEq]at h)<;>(conv=>whnf)
 ·rw[qJ h]at heq;refine⟨[],?_⟩;rw[heq,qG h]
  conv=>whnf
  all_goals exact QD
 rw[qK h]at heq;have hk8:=Z7e (e:=e) (by
  unfold visE at h
  split at h
  ·cases h
  ·split at h
   ·cases h
   ·exact h)
 have hc2:c+1<=200:=by
  unfold visE at h
  split at h
  ·cases h
  ·split at h
   ·cases h
   ·omega
 have hl2:l<=24:=by
  unfold visE at h
  split at h
  ·cases h
  ·omega
 refine loop_k (ι:=Nat×Int) [1,2,3,15,16] [900000,900001] (fun x=>x.1<=e.kids.length∧(0<=x.2∧x.2<=200)∧chkL (e.kids.drop x.1) (l+1) x.2=chkE e l c) (fun x=>e.kids.length-x.1) (0,c+1) (fun x=>[(17,.pv (vint x.1))]) (fun x=>[(900002,.pbox [vint x.2]),(900003,.pbox [vint 0])]) [] ⟨qe _,⟨by omega,by omega⟩,by rw[heq];rfl⟩ ?_ (fun x hk=>?_)
 ·(repeat'(first|exact QC|refine qa ?_ ?_))
  exact PSub.int h
 obtain⟨k,n⟩:=x;obtain⟨hkn,hn,hinv⟩:=hk;dsimp only at hkn hn hinv
 conv=>whnf
 repeat(any_goals((first|refine QB ?_ ?_<;>intro h<;>(try simp only[Q0,Q1,Q2,Q3,Q4,Q5,Q6,Q7,Q8,reduceCtorEq]at h)|refine .inr (.inr (.inr (.inr ⟨[(900000,900000),(900001,900001),(900002,900002),(900003,900003)],[],_,_,_,ih k (l+1) n 0 (by omega) (by omega) (by omega),rfl,?_⟩)))|refine QI ?_|refine QW ?_)<;>conv=>whnf))
 ·have hx:=Z48 (l:=e.kids) (k:=k) (by omega);rw[hx,chkL,qK h]at hinv;refine⟨[],?_⟩;rw[<-hinv,qG h]
  conv=>whnf
  all_goals exact QD
 ·have hx:=Z48 (l:=e.kids) (k:=k) (by omega);rw[hx,chkL,if_neg (by simpa using h)]at hinv;have hb:=chkE_b (e.kids.getD k default) (l+1) n (by omega) (by omega);refine⟨(k+1,(chkE (e.kids.getD k default) (l+1) n).1),[],⟨by dsimp only;omega,⟨hb.1,hb.2.2 h⟩,hinv⟩,by first|omega|(dsimp only;omega),?_⟩;(repeat'(first|exact QC|refine And.intro ?_ ?_));exact PSub.int h
 ·rw[List.drop_of_length_le (by omega),chkL]at hinv;refine⟨[],?_⟩;rw[<-hinv]
  conv=>whnf
  all_goals exact QD
termination_by SizeOf.sizeOf e
theorem Zjy(e:Ex)(f:Int):AC Tryz.prog 144 [.pv (.agg (cEx e)),.fn 145 [.ptr 900002 0,.ptr 900003 0]] [(900002,.pbox [vint 0]),(900003,.pbox [vint f])] (.pv (vbool (decide (exE e=0))))
  [(900002,.pbox [vint (chkE e 1 0).1]),(900003,.pbox [vint (exE e)])]:=by
 refine AC.of_awp_gen (T:=T) T_ok hm Tryz.call144 Tryz.func144 rfl rfl rfl rfl rfl rfl ?_
 conv=>whnf
 refine .inr (.inr (.inr (.inr ⟨[(900000,3),(900001,5),(900002,900002),(900003,900003)],[],_,_,_,(Zbt e 1 0 f (by omega) (by omega)),rfl,?_⟩)))
 conv=>whnf
 refine⟨[],?_⟩
 conv=>whnf
 all_goals exact QD
theorem Z6a(e:Ex):AC Tryz.prog 96 [.pv (.agg (cEx e))] [] (.pv (vint (exE e))) []:=by
 refine AC.of_awp (T:=T) T_ok hm Tryz.call96 Tryz.func96 rfl rfl rfl ?_
 conv=>whnf
 refine .inr (.inr (.inr (.inr ⟨[(900002,4),(900003,3)],[],_,_,_,(Zjy e 0),rfl,?_⟩)))
 conv=>whnf
 exact PSub.rfl
theorem Znk(s:Sco)(e:Ex)(hs:smallS s):AC Tryz.prog 241 [.pv (.agg (cSco s)),.pv (.agg (cEx e))] [] (.pv (.tup [vint (leafK s e.kind e.name e.value e.key).1,vint (leafK s e.kind e.name e.value e.key).2])) []:=by
 refine AC.of_awp (T:=T) T_ok hm Tryz.call241 Tryz.func241 rfl rfl rfl ?_
 conv=>whnf
 repeat(any_goals((first|refine QB ?_ ?_<;>intro h<;>(try simp only[Q0,Q1,Q2,Q3,Q4,Q5,Q6,Q7,Q8,reduceCtorEq]at h)|refine .inl ⟨_,Z4z s.home e.key hs.1,?_⟩|refine .inl ⟨_,Z37 s.modes 0 e.name hs.2.1,?_⟩)<;>conv=>whnf))
 all_goals(try(refine qa ?_ ?_<;>(conv=>whnf)))
 all_goals first
  |contradiction
  |(exfalso;omega)
  |exact PSub.rfl
  |(refine PSub.lit_sb ?_;(first|(simp[leafK, *];done)|(simp_all[leafK];done)|((try simp only[leafK]);(repeat' split)<;>(try simp only[qh,qj,qd,Q1,qc,Q0,Q6])<;>first|rfl|omega|(simp_all;done)|(simp_all;omega))))
  |(refine PSub.sb ?_;(first|(simp[leafK, *];done)|(simp_all[leafK];done)|((try simp only[leafK]);(repeat' split)<;>(try simp only[qh,qj,qd,Q1,qc,Q0,Q6])<;>first|rfl|omega|(simp_all;done)|(simp_all;omega))))
  |(refine PSub.sb_lit ?_;(first|(simp[leafK, *];done)|(simp_all[leafK];done)|((try simp only[leafK]);(repeat' split)<;>(try simp only[qh,qj,qd,Q1,qc,Q0,Q6])<;>first|rfl|omega|(simp_all;done)|(simp_all;omega))))
  |(refine PSub.int ?_;(first|(simp[leafK, *];done)|(simp_all[leafK];done)|((try simp only[leafK]);(repeat' split)<;>(try simp only[qh,qj,qd,Q1,qc,Q0,Q6])<;>first|rfl|omega|(simp_all;done)|(simp_all;omega))))
  |skip
theorem Zcp(l:List Int)(k:Int)(hl:smallL l):AC Tryz.prog 242 [.pv (roL 1 cint l),.pv (vint k)] [] (.pv (vbool (allI l k))) []:=by
 have hl2:l.length<=1048576:=hl;refine AC.of_awp (T:=T) T_ok hm Tryz.call242 Tryz.func242 rfl rfl rfl ?_
 conv=>whnf
 refine loop_k (ι:=Nat) [1,7,8] [] (fun q=>q<=l.length∧∀i,i<q->l.getD i default=k) (fun q=>l.length-q) 0 (fun q=>[(9,.pv (vint q))]) (fun _=>[]) [] ⟨qe _,fun i h=>absurd h (by omega)⟩ ?_ (fun q hk=>?_)
 ·exact QD
 obtain⟨hkn,hinv⟩:=hk
 conv=>whnf
 repeat(any_goals((first|refine QB ?_ ?_<;>intro h<;>(try simp only[Q0,Q1,Q2,Q3,Q4,Q5,Q6,Q7,Q8,reduceCtorEq]at h)|refine QI ?_|refine QW ?_)<;>conv=>whnf))
 ·refine PSub.lit_sb ?_;symm;rw[<-Bool.not_eq_true];intro h2;simp only[allI,qz,Q0]at h2;exact h (h2 _ (by simp[List.getD,show q<l.length from by omega]))
 ·refine⟨q+1,[],⟨by omega,?_⟩,by first|omega|(dsimp only;omega),?_⟩;rotate_left
  ·exact QD
  intro j hj
  by_cases e:j=q
  ·subst e;first|exact h|simpa[-List.getD_eq_getElem?_getD]using h|simp_all[-List.getD_eq_getElem?_getD]
  exact hinv j (by omega)
 refine PSub.lit_sb ?_;symm;simp only[allI,qz,Q0];intro x hx;obtain⟨i,hi,rfl⟩:=qp hx;have:=hinv i (by omega);simpa[List.getD,hi]using this
theorem Zfn{k n:Int}(h:kidsB k n=true)(h0:0<n):(k=6∧n=1)∨((k=7∨k=8)∧2<=n∧n<=8)∨(9<=k∧k<=13∧n=2)∨(k=14∧n=3):=by
 unfold kidsB at h;(repeat' split at h)<;>simp only[Q0,qc]at h<;>omega
set_option maxHeartbeats 1000000 in
theorem Zcr(s:Sco)(hs:smallS s)(e:Ex)(he:okE e):AC Tryz.prog 195 [.pv (.agg (cSco s)),.pv (.agg (cEx e))] [] (.pv (.tup [vint (kindE s e).1,vint (kindE s e).2])) []:=by
 obtain⟨hk1,hk2,hk3⟩:=(Zgg e).1 he;have ih:∀k,k<e.kids.length->AC Tryz.prog 195 [.pv (.agg (cSco s)),.pv (.agg (cEx (e.kids.getD k default)))] [] (.pv (.tup [vint (kindE s (e.kids.getD k default)).1,vint (kindE s (e.kids.getD k default)).2])) []:=fun k hk=>
  have:=Ex.kid_lt (Ex.kid_at hk)
  Zcr s hs (e.kids.getD k default) (okL_at hk3 hk)
 refine AC.ex2 ?_;refine AC.of_awp (T:=T) T_ok hm Tryz.call195 Tryz.func195 rfl rfl rfl ?_
 conv=>whnf
 refine⟨fun h=>?_,fun h=>?_⟩<;>(try simp only[Q0,Q1,Q2,Q3,Q4,Q5,Q6,Q7,Q8,reduceCtorEq]at h)<;>(conv=>whnf)
 ·have hz:=Z3j (s:=s) (e:=e) (by omega)
  repeat(any_goals((first|refine .inl ⟨_,(Znk s e hs).ex2',?_⟩)<;>conv=>whnf))
  rw[hz];refine⟨?_,?_⟩<;>(conv=>whnf)
  all_goals exact PSub.rfl
 have hop:=Z5i (s:=s) (e:=e) (by omega);have hlen:=Zfn hk2 (by omega);refine loop_k (ι:=Nat×List Int) [2,3,23,24] [2,3] (fun x=>x.1<=e.kids.length∧KTo s e.kids x.1 x.2) (fun x=>e.kids.length-x.1) (0,[]) (fun x=>[(6,.own 500),(25,.pv (vint x.1))]) (fun x=>[(500,rowL 1 cint x.2)]) [] ⟨qe _,KTo.zero s e.kids⟩ ?_ (fun x hk=>?_)
 ·exact QD
 obtain⟨k,acc⟩:=x;obtain⟨hkn,hinv⟩:=hk;dsimp only at hkn hinv;have hacc:=hinv.1
 conv=>whnf
 have hsm:smallL acc:=show acc.length<=1048576 from by omega
 repeat(any_goals((first|refine QB ?_ ?_<;>intro h<;>(try simp only[Q0,Q1,Q2,Q3,Q4,Q5,Q6,Q7,Q8,reduceCtorEq]at h)|refine .inl ⟨_,ih k (by omega),?_⟩|refine .inl ⟨_,Zcp acc 1 hsm,?_⟩|refine .inl ⟨_,Zcp acc 2 hsm,?_⟩|refine QI ?_|refine QK ?_|refine QW ?_)<;>conv=>whnf))
 ·have:=hinv.err (by omega) h;rw[this]at hop;rw[hop];refine⟨?_,?_⟩<;>(conv=>whnf)
  all_goals exact PSub.rfl
 ·refine⟨(k+1,acc ++ [(kindE s (e.kids.getD k default)).1]),[(500,41)],⟨by dsimp only;omega,hinv.next (by omega) h⟩,by dsimp only;omega,?_⟩;(repeat'(first|exact QC|refine And.intro ?_ ?_))
  ·dsimp only;rw[List.length_append];simp[hacc]
  refine Z05 (fun i hi=>by simp only[qK hi];exact PSubs.rfl) (by simp only[qJ (qM _),Nat.sub_self];exact PSubs.rfl)
 all_goals have hdn:=hinv.done (by omega)
 all_goals rw[hdn]at hop
 all_goals dsimp only at hop
 all_goals(try(exfalso;omega))
 all_goals rw[hop]
 all_goals(try(refine qa ?_ ?_<;>(conv=>whnf)))
 all_goals first
  |contradiction
  |(exfalso;omega)
  |exact PSub.rfl
  |(refine PSub.lit_sb ?_;(first|(simp[opK, *];done)|(simp_all[opK];done)|((try simp only[opK]);(repeat' split)<;>(try simp only[qh,qj,qd,Q1,qc,Q0,Q6])<;>first|rfl|omega|(simp_all;done)|(simp_all;omega))))
  |(refine PSub.sb ?_;(first|(simp[opK, *];done)|(simp_all[opK];done)|((try simp only[opK]);(repeat' split)<;>(try simp only[qh,qj,qd,Q1,qc,Q0,Q6])<;>first|rfl|omega|(simp_all;done)|(simp_all;omega))))
  |(refine PSub.sb_lit ?_;(first|(simp[opK, *];done)|(simp_all[opK];done)|((try simp only[opK]);(repeat' split)<;>(try simp only[qh,qj,qd,Q1,qc,Q0,Q6])<;>first|rfl|omega|(simp_all;done)|(simp_all;omega))))
  |(refine PSub.int ?_;(first|(simp[opK, *];done)|(simp_all[opK];done)|((try simp only[opK]);(repeat' split)<;>(try simp only[qh,qj,qd,Q1,qc,Q0,Q6])<;>first|rfl|omega|(simp_all;done)|(simp_all;omega))))
  |skip
termination_by SizeOf.sizeOf e
theorem Zne(s:Sco)(e:Ex)(hs:smallS s):AC Tryz.prog 136 [.pv (.agg (cSco s)),.pv (.agg (cEx e))] [] (.pv (.tup [vint (exprK s e).1,vint (exprK s e).2])) []:=by
 refine AC.of_awp (T:=T) T_ok hm Tryz.call136 Tryz.func136 rfl rfl rfl ?_
 conv=>whnf
 repeat(any_goals((first|refine QB ?_ ?_<;>intro h<;>(try simp only[Q0,Q1,Q2,Q3,Q4,Q5,Q6,Q7,Q8,reduceCtorEq]at h)|refine .inl ⟨_,Z6a e,?_⟩)<;>conv=>whnf))
 ·rw[exprK,qK h];refine⟨?_,?_⟩<;>(conv=>whnf)
  all_goals exact PSub.rfl
 rw[exprK,qJ (by simpa using h)]
 repeat(any_goals((first|refine .inl ⟨_,Zcr s hs e (exE_ok h),?_⟩)<;>conv=>whnf))
 refine⟨?_,?_⟩<;>(conv=>whnf)
 all_goals exact PSub.rfl
def wantK(s:Sco)(e:Ex)(k:Int):Int:=if(exprK s e).2≠0 then(exprK s e).2 else if(exprK s e).1≠k then 11 else 0
theorem Z8n(s:Sco)(e:Ex)(k:Int)(hs:smallS s):AC Tryz.prog 87 [.pv (.agg (cSco s)),.pv (.agg (cEx e)),.pv (vint k)] [] (.pv (vint (wantK s e k))) []:=by
 refine AC.of_awp (T:=T) T_ok hm Tryz.call87 Tryz.func87 rfl rfl rfl ?_
 conv=>whnf
 repeat(any_goals((first|refine QB ?_ ?_<;>intro h<;>(try simp only[Q0,Q1,Q2,Q3,Q4,Q5,Q6,Q7,Q8,reduceCtorEq]at h)|refine .inl ⟨_,Zne s e hs,?_⟩)<;>conv=>whnf))
 all_goals first
  |contradiction
  |(exfalso;omega)
  |exact PSub.rfl
  |(refine PSub.lit_sb ?_;(first|(simp[wantK, *];done)|(simp_all[wantK];done)|((try simp only[wantK]);(repeat' split)<;>(try simp only[qh,qj,qd,Q1,qc,Q0,Q6])<;>first|rfl|omega|(simp_all;done)|(simp_all;omega))))
  |(refine PSub.sb ?_;(first|(simp[wantK, *];done)|(simp_all[wantK];done)|((try simp only[wantK]);(repeat' split)<;>(try simp only[qh,qj,qd,Q1,qc,Q0,Q6])<;>first|rfl|omega|(simp_all;done)|(simp_all;omega))))
  |(refine PSub.sb_lit ?_;(first|(simp[wantK, *];done)|(simp_all[wantK];done)|((try simp only[wantK]);(repeat' split)<;>(try simp only[qh,qj,qd,Q1,qc,Q0,Q6])<;>first|rfl|omega|(simp_all;done)|(simp_all;omega))))
  |(refine PSub.int ?_;(first|(simp[wantK, *];done)|(simp_all[wantK];done)|((try simp only[wantK]);(repeat' split)<;>(try simp only[qh,qj,qd,Q1,qc,Q0,Q6])<;>first|rfl|omega|(simp_all;done)|(simp_all;omega))))
  |skip
def fireE(s:Sco)(t:Trg):Int:=
 if t.kind=1 then(if(findA s.home t.key).isSome=true then 0 else 8)
 else if t.kind=2 then(if(partO s.home t.event.dev t.event.cluster).isSome=true∧0<=idxOf ((partO s.home t.event.dev t.event.cluster).getD noClu).events t.event.name then 0 else 8)
 else if t.kind=4 then(if t.name=⟨#[]⟩∨0<=idxOf s.modes t.name then 0 else 8)else 0
def comO(s:Sco)(x:Stp):Option Cmd:=
 match partO s.home x.key.dev x.key.cluster with
 |none=>none
 |some c=>if cmdAt c.commands x.name<c.commands.length then some (cmdOf c.commands x.name)else none
def comE(s:Sco)(x:Stp):Int:=
 match comO s x with
 |none=>8
 |some d=>if d.param.kind≠0 then wantK s x.expr d.param.kind else if zeroX x.expr=true then 0 else 1
def doE(s:Sco)(x:Stp):Int:=
 if x.kind=1 then(if(findA s.home x.key).isSome=false then 8 else if((findA s.home x.key).getD noAttr).writable=false then 24 else wantK s x.expr ((findA s.home x.key).getD noAttr).kind)
 else if x.kind=2 then comE s x
 else if x.kind=3 then(if 0<=idxOf s.scenes x.name then 0 else 8)
 else if x.kind=4 then(if 0<=idxOf s.modes x.name then 0 else 8)else 0
def ruleE(s:Sco)(r:Rul):Int:=
 if rulE r≠0 then rulE r else if firstE r.on.length (fun i=>fireE s (r.on.getD i default))≠0 then firstE r.on.length fun i=>fireE s (r.on.getD i default)
 else if wantK s r.cond 1≠0 then wantK s r.cond 1 else firstE r.steps.length fun i=>doE s (r.steps.getD i default)
def atE(s:Sco)(l:List Rul)(i:Nat):Int:=if ruleE s (l.getD i default)≠0 then ruleE s (l.getD i default)else if idxOf (l.map Rul.name) (l.getD i default).name<i then 9 else 0
def rulesE(s:Sco)(l:List Rul):Int×Int:=
 if 40<l.length then(40,3)else match(List.range l.length).find? (fun i=>decide (atE s l i≠0))with
  |some i=>(i,atE s l i)
  |none=>(-1,0)
theorem Z7n{s:Sco}{l:List Rul}{k:Nat}(h40:¬40<l.length)(hk:k<l.length)(h:atE s l k≠0)(hf:∀j,j<k->atE s l j=0):rulesE s l=((k:Int),atE s l k):=by
 have:(List.range l.length).find? (fun i=>decide (atE s l i≠0))=some k:=by
  rw[List.find?_range_eq_some];exact⟨by simpa using h,by simpa using hk,fun j hj=>by simpa using hf j hj⟩
 unfold rulesE;rw[qJ h40,this]
theorem Zhg{s:Sco}{l:List Rul}(h40:¬40<l.length)(hf:∀j,j<l.length->atE s l j=0):rulesE s l=(-1,0):=by
 have:(List.range l.length).find? (fun i=>decide (atE s l i≠0))=none:=by
  rw[List.find?_eq_none];intro x hx;simpa using hf x (by simpa using hx)
 unfold rulesE;rw[qJ h40,this]
open Go.RowKit
theorem Zik{β:Type}:∀(l:List β) (f:Nat->Nat) (h:β->Nat),(∀(i:Nat) (x:β),l[i]? = some x->f i<=h x)->((List.range l.length).map f).sum<=(l.map h).sum
 | [],_,_,_=>by simp
 |x::l,f,h,hf=>by
  rw[qy,List.range_succ_eq_map];simp only[List.map_cons,List.map_map,List.sum_cons];have h0:=hf 0 x rfl;have h1:=Zik l (fun i=>f (i+1)) h (fun i y e=>hf (i+1) y (by simpa using e));have e:(f ∘ Nat.succ)=fun i=>f (i+1):=rfl
  rw[e];omega
structure BulkSum {H:Type} (bulk:DataW H->Nat):Prop where
 slice:∀e s,(e.map bulk).sum<=bulk (.slice e s)
 agg:∀l,(l.map bulk).sum+1<=bulk (.agg l)
section
variable {H:Type} (enc:TypeId×Value->H) (P:Program) (w:World) (bulk:DataW H->Nat) (B:Nat)
def OpensU(N:Nat)(t:TypeId){α:Type}(cs:α->List PV)(good:α->Prop)(me:α->Nat):Prop:=
 ∀(sp:Nat->Bool) (fuel:Nat) (vs:List Value) (x:DataW H×List MemPlace),fuel<=N->DataW.trod enc P w 0 sp true fuel t vs=some x->bulk x.1<=B->∃a:α,good a∧me a<=bulk x.1∧Reads w vs (cs a)
def FOpensU(N:Nat)(fs:List Field)(off:Nat){α:Type}(cs:α->List PV)(good:α->Prop)(me:α->Nat):Prop:=
 ∀(sp:Nat->Bool) (n:Nat) (vs:List Value) (xs:List (DataW H×List MemPlace)),n<=N->xs.length=fs.length->(∀(i:Nat) (f:Field),fs[i]? = some f->DataW.trod enc P w 0 sp true n f.type ((vs.drop f.offset).take (P.cellsOf f.type))=xs[i]?)->
  (∀y∈xs,bulk y.1<=B)->off<=vs.length->vs.length=off+(fs.map fun f=>P.cellsOf f.type).sum->∃a:α,good a∧me a<=(xs.map fun y=>bulk y.1).sum∧Reads w (vs.drop off) (cs a)
end
section
variable {H:Type} {enc:TypeId×Value->H} {P:Program} {w:World} {bulk:DataW H->Nat} {B:Nat}
theorem OpensU.all{t:TypeId}{α:Type}{cs:α->List PV}{good:α->Prop}{me:α->Nat}(h:∀N,OpensU enc P w bulk B N t cs good me):Opens enc P w bulk B t cs (fun a=>good a∧me a<=B):=by
 intro sp fuel vs x hx hb;obtain⟨a,h1,h2,h3⟩:=h fuel sp fuel vs x (qL _) hx hb;exact⟨a,⟨h1,qF h2 hb⟩,h3⟩
theorem OpensU.imp{t:TypeId}{α β:Type}{cs:α->List PV}{good:α->Prop}{me:α->Nat}{cs':β->List PV}{good':β->Prop}{me':β->Nat}{N:Nat}(h:OpensU enc P w bulk B N t cs good me)(f:α->β)(he:∀a,good a->∀vs,Reads w vs (cs a)->Reads w vs (cs' (f a)))(hg:∀a,good a->good' (f a))(hm:∀a,me' (f a)<=me a):OpensU enc P w bulk B N t cs' good' me':=by
 intro sp fuel vs x hf hx hb;obtain⟨a,h1,h2,h3⟩:=h sp fuel vs x hf hx hb;exact⟨f a,hg a h1,qF (hm a) h2,he a h1 vs h3⟩
theorem OpensU.slice(hB:BulkOk bulk)(hS:BulkSum bulk){t e:TypeId}{α:Type}[Inhabited α]{cs:α->List PV}{good:α->Prop}{me:α->Nat}{N:Nat}{size:Nat}(ht:P.underlying t=some (.slice e))(hsz:P.cellsOf e=size)(hpos:0<size)(he:OpensU enc P w bulk B N e cs good me) :
  OpensU enc P w bulk B (N+1) t (fun l:List α=>[roL size cs l]) (fun l=>l.length<=B∧∀i,i<l.length->good (l.getD i default)) (fun l=>(l.map me).sum):=by
 intro sp fuel vs x hfu hx hb;rcases DataW.trod_slice ht hx with⟨rfl,rfl⟩|⟨a,len,cap,elems,rest,n,rfl,rfl,rfl,_,hlc,hcm,hel,hcell,_,_⟩
 ·exact⟨[],⟨qe _,fun i h=>absurd h (by simp)⟩,qe _,Reads.single ((PSub.nil_ro size _).to _ _ _ (.val _)) rfl⟩
 ·simp only at hb;have hlen:len<=B:=by
   have:=hB.len (elems.map (·.1)) (rest.map (·.1));simp only[List.length_map]at this;omega
  have hone:∀i,i<len->∃y,(good y∧∀z,elems[i]? = some z->me y<=bulk z.1)∧∃cl,w.cells? 0 (a.add (i*size)) size=some cl∧Reads w cl (cs y):=by
   intro i hi;have h1:=hcell i hi;rw[hsz]at h1;have hi2:i<elems.length:=by omega
   rw[List.getElem?_eq_getElem hi2]at h1;cases hc:w.cells? 0 (a.add (i*size)) size with
   |none=>rw[hc]at h1;cases h1
   |some cl=>
    rw[hc]at h1;simp only[Option.bind_some]at h1;have hb2:bulk (elems[i]).1<=B:=qF (hB.elem (elems.map (·.1)) (rest.map (·.1)) _ (List.mem_map_of_mem (qE hi2))) hb;obtain⟨y,hg,hme,hr⟩:=he sp n cl _ (by omega) h1 hb2;exact⟨y,⟨hg,fun z hz=>by rw[List.getElem?_eq_getElem hi2]at hz;cases hz;exact hme⟩,cl,rfl,hr⟩
  have hex:∃f:Nat->α,∀i,i<len->(good (f i)∧∀z,elems[i]? = some z->me (f i)<=bulk z.1)∧∃cl,w.cells? 0 (a.add (i*size)) size=some cl∧Reads w cl (cs (f i)):=
   ⟨fun i=>if h:i<len then Classical.choose (hone i h)else default,fun i hi=>by simp only[dif_pos hi];exact Classical.choose_spec (hone i hi)⟩
  obtain⟨f,hf⟩:=hex;have hget:∀i,i<len->((List.range len).map f).getD i default=f i:=fun i hi=>by simp[List.getD,hi]
  refine⟨(List.range len).map f,⟨by simpa using hlen,fun i hi=>?_⟩,?_,Reads.single ?_ rfl⟩
  ·have hi:i<len:=by simpa using hi
   rw[hget i hi];exact(hf i hi).1.1
  ·have h1:=Zik elems (fun i=>me (f i)) (fun z=>bulk z.1) (fun i z hz=>(hf i (by have:=(List.getElem?_eq_some_iff.1 hz).1;omega)).1.2 z hz);have h2:=hS.slice (elems.map (·.1)) (rest.map (·.1));rw[List.map_map]at h2;dsimp only;rw[List.map_map];rw[show elems.length=len from by omega]at h1;exact Nat.le_trans h1 h2
  ·have key:∀i,i<len->∀j,j<size->∃v,w.cell? (a.add (i*size+j))=some v∧v.oneCell'=true∧(a.add (i*size+j)).block<w.heap.size∧∀p,(cs (f i))[j]? = some p->PR w (fun _=>False) p v:=by
    intro i hi j hj;obtain⟨_,cl,hc,hr⟩:=hf i hi;obtain⟨_,hl,hall⟩:=World.cells?_some hc;have hj2:j<cl.length:=by omega
    have h1:=hall j hj;rw[Z57,List.getElem?_eq_getElem hj2]at h1;have hg:cl.getD j undef=cl[j]:=by simp[List.getD,hj2]
    refine⟨cl[j],h1,by rw[<-hg];exact hr.one j hj2,?_,fun p hp=>by rw[<-hg];exact hr.pr j p hp⟩;have hb:=World.cells?_block hc hpos;simpa[Z1g]using hb
   have hn:((List.range len).map f).length=len:=by simp
   unfold roL;rw[hn];refine .ro size len _ (some a) cap (fun i j=>(w.cell? (a.add (i*size+j))).getD undef) hlc hcm (fun h=>by cases h) (fun i hi=>?_) (fun h0=>⟨a,rfl,?_,fun h=>h.elim,fun i hi j hj=>?_⟩) (fun i hi j p hp=>?_)
   ·rw[hget i hi];obtain⟨_,cl,hc,hr⟩:=hf i hi;obtain⟨_,hl,_⟩:=World.cells?_some hc;rw[<-hr.len];exact hl
   ·obtain⟨v,_,_,hb,_⟩:=key 0 h0 0 hpos;simpa[Z1g]using hb
   ·obtain⟨v,e,h1,_,_⟩:=key i hi j hj;rw[e];exact⟨rfl,h1⟩
   ·rw[hget i hi]at hp;have hj:j<size:=by
     obtain⟨_,cl,hc,hr⟩:=hf i hi;obtain⟨_,hl,_⟩:=World.cells?_some hc;have:=(qf.1 hp).1;rw[<-hr.len,hl]at this;exact this
    obtain⟨v,e,_,_,hpv⟩:=key i hi j hj;simp only[e,Option.getD_some];exact hpv p hp
theorem FOpensU.nil{N:Nat}{off:Nat}:FOpensU enc P w bulk B N [] off (fun _:Unit=>[]) (fun _=>True) (fun _=>0):=by
 intro sp n vs xs _ _ _ _ _ hl;simp at hl;exact⟨(),trivial,qe _,by rw[List.drop_of_length_le (by omega)];exact Reads.nil⟩
theorem FOpensU.cons{N:Nat}{f:Field}{fs:List Field}{off:Nat}{α β:Type}{cs:α->List PV}{good:α->Prop}{me:α->Nat}{me':β->Nat}{cs':β->List PV}{good':β->Prop}{size:Nat}(ho:f.offset=off)(hsz:P.cellsOf f.type=size)(h:OpensU enc P w bulk B N f.type cs good me)(k:FOpensU enc P w bulk B N fs (off+size) cs' good' me') :
  FOpensU enc P w bulk B N (f::fs) off (fun x:α×β=>cs x.1++cs' x.2) (fun x=>good x.1∧good' x.2) (fun x=>me x.1+me' x.2):=by
 subst ho;subst hsz;intro sp n vs xs hnN hxl hx hb hoff hl;cases xs with
 |nil=>simp at hxl
 |cons y ys=>
  have h0:=hx 0 f rfl;simp only[List.getElem?_cons_zero]at h0;obtain⟨a,ha,ma,ra⟩:=h sp n _ _ hnN h0 (hb y (by simp));simp only[List.map_cons,List.sum_cons]at hl;obtain⟨b,hb2,mb,rb⟩:=k sp n vs ys hnN (by simpa using hxl) (fun i g hg=>by simpa using hx (i+1) g (by simpa using hg)) (fun z hz=>hb z (by simp[hz])) (by omega) (by omega);refine⟨(a,b),⟨ha,hb2⟩,by simp only[List.map_cons,List.sum_cons];omega,?_⟩;have e:vs.drop f.offset=(vs.drop f.offset).take (P.cellsOf f.type)++vs.drop (f.offset+P.cellsOf f.type):=by
   rw[<-List.drop_drop,List.take_append_drop]
  rw[e];exact ra.append rb
theorem OpensU.struct(hB:BulkOk bulk)(hS:BulkSum bulk){N:Nat}{t:TypeId}{fs:Array Field}{α:Type}{cs:α->List PV}{good:α->Prop}{me:α->Nat}(ht:P.underlying t=some (.struct fs))(hc:P.cellsOf t=(fs.toList.map fun f=>P.cellsOf f.type).sum)(h:FOpensU enc P w bulk B N fs.toList 0 cs good me) :
  OpensU enc P w bulk B (N+1) t cs good (fun a=>me a+1):=by
 intro sp fuel vs x hfu hx hb;obtain⟨xs,n,rfl,rfl,hl,hxl,hall⟩:=DataW.trod_struct ht hx;obtain⟨a,ha,hma,hr⟩:=h sp n vs xs (by omega) (by simpa using hxl) (fun i f hf=>hall i f (by simpa using hf)) (fun y hy=>qF (hB.part _ _ (List.mem_map_of_mem hy)) hb) (qe _) (by rw[hl,hc];simp);refine⟨a,ha,?_,by simpa using hr⟩;have:=hS.agg (xs.map (·.1));rw[List.map_map]at this;exact qF (Nat.add_le_add_right hma 1) this
end
open Go.Proofs Go.RowKit
section
variable {H:Type} {enc:TypeId×Value->H} {w:World} {bulk:DataW H->Nat}
theorem Reads.sub{vs:List Value}{ps qs:List PV}(h:Reads w vs ps)(hs:PSubs ps qs):Reads w vs qs:=
 ⟨h.len.trans hs.length,fun i x e=>by obtain⟨p,hp,hpq⟩:=hs.get i x e;exact hpq.to _ _ _ (h.pr i p hp),h.one⟩
def goodRulO(r:Rul):Prop:=sizeE r.cond<=1073741824∧∀i,i<r.steps.length->sizeE (r.steps.getD i default).expr<=1073741824
end
theorem Z03{α:Type}(l:List α){i:Nat}(d:α)(h:i<l.length):l.getD i d=l[i]:=by simp[List.getD,h]
def Asc(l:List Key):Prop:=l.Pairwise fun a b=>keyLess a b=true
def putK:List Key->Key->List Key
 | [],k=>[k]
 |x::r,k=>if keyLess x k=true then x::putK r k else k ::(x::r).filter fun y=>decide (y≠k)
theorem mem_putK{l:List Key}{k x:Key}:x∈putK l k↔x=k∨x∈l:=by
 induction l with
 |nil=>simp[putK]
 |cons y r ih=>
  unfold putK;split
  ·simp only[qk,ih];constructor
   ·rintro (h|h|h)
    ·exact .inr (.inl h)
    ·exact .inl h
    exact .inr (.inr h)
   rintro (h|h|h)
   ·exact .inr (.inl h)
   ·exact .inl h
   exact .inr (.inr h)
  simp only[qk,List.mem_filter,Q0];constructor
  ·rintro (h|⟨h,_⟩)
   ·exact .inl h
   exact .inr h
  rintro (h|h)
  ·exact .inl h
  by_cases e:x=k
  ·exact .inl e
  exact .inr ⟨h,e⟩
theorem Zd2{l:List Key}{k:Key}(h:Asc l):Asc (putK l k):=by
 induction l with
 |nil=>simp[putK,Asc]
 |cons y r ih=>
  obtain⟨h1,h2⟩:=qQ.1 h;unfold putK;split
  ·rename_i hy;refine qQ.2 ⟨fun x hx=>?_,ih h2⟩;rcases mem_putK.1 hx with rfl|hx
   ·exact hy
   exact h1 x hx
  rename_i hy;refine qQ.2 ⟨fun x hx=>?_,h.sublist (List.filter_sublist)⟩;rw[List.mem_filter,Q0]at hx;obtain⟨hx,hne⟩:=hx;rcases qk.1 hx with rfl|hx
  ·exact(Z20 hne).resolve_left hy
  have h3:=h1 x hx;rcases Z20 hne with h4|h4
  ·exact absurd (Z3h h3 h4) hy
  exact h4
def sortK(l:List Key):List Key:=l.foldl putK []
theorem Zpu{l acc:List Key}(h:Asc acc):Asc (l.foldl putK acc):=by
 induction l generalizing acc with
 |nil=>exact h
 |cons y r ih=>exact ih (Zd2 h)
theorem Z2c(l:List Key):Asc (sortK l):=Zpu List.Pairwise.nil
theorem Zgy(l:List Key)(k:Key):(putK l k).length<=l.length+1:=by
 induction l with
 |nil=>simp[putK]
 |cons y r ih=>
  unfold putK;split
  ·simp only[qy];omega
  simp only[qy];have:=List.length_filter_le (fun z=>decide (z≠k)) (y::r);simp only[qy]at this;omega
theorem Zpv{l acc:List Key}:(l.foldl putK acc).length<=acc.length+l.length:=by
 induction l generalizing acc with
 |nil=>simp
 |cons y r ih=>
  have h1:=ih (acc:=putK acc y);have h2:=Zgy acc y;simp only[List.foldl_cons,qy];omega
theorem Z4v(l:List Key):(sortK l).length<=l.length:=by
 have:=Zpv (l:=l) (acc:=[]);simpa[sortK]using this
structure Op where
 H:Hom
 L:List Item
 K:Key
 V:Val
 deriving Inhabited
section
variable {H:Type} {enc:TypeId×Value->H} {w:World} {bulk:DataW H->Nat}
end
def afterV(x:Eff)(a:Attr)(p v:Val):Val:=
 limitV a (if x.kind=1 then⟨a.kind,x.n,⟨#[]⟩⟩else if x.kind=2 then p else if x.kind=3 then⟨v.kind,satI (v.n+x.n),v.s⟩else if x.kind=4 then⟨v.kind,1-v.n,v.s⟩else v)
def doneV(x:Eff)(a:Attr)(p v:Val):Val:=
 limitV a (if x.kind=1 then⟨v.kind,x.n,v.s⟩else if x.kind=2 then p else if x.kind=3 then⟨v.kind,v.n+x.n,v.s⟩else if x.kind=4 then⟨v.kind,1-v.n,v.s⟩else v)
theorem Zja(x:Eff)(a:Attr)(p v:Val)(ha:smallA a)(hv:smallN v.n)(hx:x.kind=3->smallN x.n):AC Tryz.prog 297 [.pv (.agg (cEff x)),.pv (.agg (cAttr a)),.pv (.agg (cVal p)),.pv (.agg (cVal v))] [] (.pv (.agg (cVal (afterV x a p v)))) []:=by
 have⟨h1,h2⟩:=hv;refine AC.of_awp (T:=T) T_ok hm Tryz.call297 Tryz.func297 rfl rfl rfl ?_
 conv=>whnf
 repeat(any_goals((first|refine QB ?_ ?_<;>intro h<;>(try simp only[Q0,Q1,Q2,Q3,Q4,Q5,Q6,Q7,Q8,reduceCtorEq]at h)|refine .inl ⟨_,Z41 a ⟨a.kind,x.n,⟨#[]⟩⟩ ha,?_⟩|refine .inl ⟨_,Z41 a p ha,?_⟩|refine .inl ⟨_,Zbv v.n x.n hv (hx h),?_⟩|refine .inl ⟨_,Z41 a ⟨v.kind,satI (v.n+x.n),v.s⟩ ha,?_⟩|refine .inl ⟨_,Z41 a ⟨v.kind,1-v.n,v.s⟩ ha,?_⟩|refine .inl ⟨_,Z41 a v ha,?_⟩|refine QW ?_)<;>conv=>whnf))
 all_goals first
  |(rw[afterV,qK (by assumption)];exact .rfl)
  |(rw[afterV,qJ (by assumption),qK (by assumption)];exact .rfl)
  |(rw[afterV,qJ (by assumption),qJ (by assumption),qK (by assumption)];exact .rfl)
  |(rw[afterV,qJ (by assumption),qJ (by assumption),qJ (by assumption),qK (by assumption)];exact .rfl)
  |(rw[afterV,qJ (by assumption),qJ (by assumption),qJ (by assumption),qJ (by assumption)];exact .rfl)
theorem fits_iff{a:Attr}{v:Val}:fitsE a v=0↔(defE a=0∧valE v=0∧v.kind=a.kind∧¬((v.kind=2∧(v.n<a.min∨a.max<v.n))∨(v.kind=3∧(a.enum.length:Int)<=v.n))):=by
 unfold fitsE;constructor
 ·intro h
  split at h
  ·contradiction
  split at h
  ·contradiction
  split at h
  ·cases h
  split at h
  ·cases h
  refine⟨by omega,by omega,by omega,by assumption⟩
 rintro ⟨h1,h2,h3,h4⟩
 rw[qJ (by omega),qJ (by omega),qJ (by omega),qJ h4]
theorem val_iff{v:Val}:valE v=0↔(0<=v.kind∧v.kind<=4∧((v.kind=0∨v.kind=4)->v.n=0)∧(v.kind=1->v.n=0∨v.n=1)∧(v.kind=2->inRange v.n=true)∧(v.kind=3->0<=v.n∧v.n<=63)∧v.s.size<=60∧(v.s=⟨#[]⟩∨v.kind=4)):=by
 unfold valE;constructor
 ·intro h
  split at h
  ·cases h
  rename_i h1
  split at h
  ·cases h
  rename_i h2
  split at h
  ·cases h
  rename_i h3
  split at h
  ·cases h
  rename_i h4;refine⟨by omega,by omega,by omega,by omega,fun hk=>?_,by omega,by omega,?_⟩
  ·cases hi:inRange v.n with
   |true=>rfl
   |false=>exact absurd (.inr (.inr (.inl ⟨hk,hi⟩))) h2
  by_cases hs:v.s=⟨#[]⟩
  ·exact .inl hs
  exact .inr (Classical.not_not.1 fun hk=>h4 ⟨hs,hk⟩)
 rintro ⟨h1,h2,h3,h4,h5,h6,h7,h8⟩
 rw[qJ (by omega),qJ,qJ (by omega),qJ]
 ·rintro ⟨hs,hk⟩;rcases h8 with h|h
  ·exact hs h
  exact hk h
 rintro (h|h|h|h)
 ·omega
 ·omega
 ·rw[h5 h.1]at h;cases h.2
 omega
theorem Z9b{a:Attr}(h:defE a=0)(hk:a.kind=2):inRange a.min=true∧inRange a.max=true∧a.min<=a.max:=by
 unfold defE at h
 split at h
 ·cases h
 split at h
 ·cases h
 split at h
 ·cases h
 rename_i h1;have h2:¬(inRange a.min=false∨inRange a.max=false∨a.max<a.min):=fun x=>h1 ⟨hk,x⟩
 refine⟨?_,?_,?_⟩
 ·cases e:inRange a.min with
  |true=>rfl
  |false=>exact absurd (.inl e) h2
 ·cases e:inRange a.max with
  |true=>rfl
  |false=>exact absurd (.inr (.inl e)) h2
 exact Int.not_lt.1 fun x=>h2 (.inr (.inr x))
theorem inRange_iff{n:Int}:inRange n=true↔-1099511627776<=n∧n<=1099511627776:=by simp[inRange]
theorem Zr5{a:Attr}{v:Val}(h:fitsE a v=0):limitV a v=v:=by
 rw[fits_iff]at h;unfold limitV;split
 ·rename_i hh;obtain⟨k,n,s⟩:=v;simp only at *;congr 1;unfold clampI;have:=Z9b h.1 hh.2.1;rw[qJ (by omega),qJ (by omega)]
 rfl
theorem Za5{a:Attr}{n:Int}{s:ByteArray}(hd:defE a=0)(hk:a.kind=2)(hs:s=⟨#[]⟩):limitV a ⟨2,n,s⟩=⟨2,clampI n a.min a.max,s⟩∧fitsE a (limitV a ⟨2,n,s⟩)=0:=by
 have e:limitV a ⟨2,n,s⟩=⟨2,clampI n a.min a.max,s⟩:=by
  unfold limitV;rw[qK ⟨hd,hk,rfl⟩]
 refine⟨e,?_⟩;rw[e,fits_iff,val_iff];obtain⟨h1,h2,h3⟩:=Z9b hd hk;rw[inRange_iff]at h1 h2;have hc:a.min<=clampI n a.min a.max∧clampI n a.min a.max<=a.max:=by unfold clampI;(repeat' split)<;>omega
 simp only[inRange_iff];subst hs;refine⟨hd,⟨by omega,by omega,by omega,by omega,by omega,by omega,by decide,.inl rfl⟩,by omega,by omega⟩
theorem Zwn{x:Eff}{a p:Attr}(h:suitsB x a p=true):(x.kind=1∧a.kind≠4∧fitsE a ⟨a.kind,x.n,⟨#[]⟩⟩=0)∨(x.kind=2∧a.kind=p.kind∧a.enum=p.enum)∨(x.kind=3∧a.kind=2)∨(x.kind≠1∧x.kind≠2∧x.kind≠3∧a.kind=1):=by
 unfold suitsB at h
 split at h
 ·rename_i hk;simp only[qc,Q0]at h;exact .inl ⟨hk,h⟩
 split at h
 ·rename_i hk;simp only[alikeB,qc,Q0]at h;exact .inr (.inl ⟨hk,h⟩)
 split at h
 ·rename_i hk;simp only[Q0]at h;exact .inr (.inr (.inl ⟨hk,h⟩))
 simp only[Q0]at h;exact .inr (.inr (.inr ⟨by assumption,by assumption,by assumption,h⟩))
def acceptsE(d:Cmd)(p:Val):Int:=if d.param.kind≠0 then fitsE d.param p else if p≠noVal then 11 else 0
theorem Z8r{x:Eff}{a:Attr}{d:Cmd}{p v:Val}(hk:1<=x.kind∧x.kind<=4)(hs:suitsB x a d.param=true)(hp:acceptsE d p=0)(hv:fitsE a v=0)(hn:x.kind=3->satI x.n=x.n) :
  fitsE a (afterV x a p v)=0∧doneV x a p v=afterV x a p v:=by
 obtain⟨hd,hval,hvk,hvb⟩:=fits_iff.1 hv;have hv2:=val_iff.1 hval;rcases Zwn hs with⟨h1,h2,h3⟩|⟨h1,h2,h3⟩|⟨h1,h2⟩|⟨h1,h2,h3,h4⟩
 ·have hvs:v.s=⟨#[]⟩:=by rcases hv2.2.2.2.2.2.2.2 with h|h;exact h;omega
  unfold afterV doneV;rw[qK h1,qK h1,hvk,hvs];exact⟨by rw[Zr5 h3];exact h3,rfl⟩
 ·unfold afterV doneV;rw[qJ (by omega),qK h1,qJ (by omega),qK h1];refine⟨?_,rfl⟩;have hak:1<=a.kind:=by
   unfold defE at hd
   split at hd
   ·cases hd
   split at hd
   ·cases hd
   omega
  have hpf:fitsE d.param p=0:=by
   unfold acceptsE at hp;rw[qK (by omega)]at hp;exact hp
  obtain⟨hpd,hpv,hpk,hpb⟩:=fits_iff.1 hpf;have hp2:=val_iff.1 hpv
  by_cases hk2:a.kind=2
  ·have e:p=⟨2,p.n,p.s⟩:=by cases p;simp only at *;congr 1;omega
   rw[e];refine(Za5 hd hk2 ?_).2;rcases hp2.2.2.2.2.2.2.2 with h|h;exact h;omega
  have e:limitV a p=p:=by unfold limitV;rw[qJ (by omega)]
  rw[e,fits_iff];refine⟨hd,hpv,by omega,?_⟩;rw[h3];omega
 ·have hvs:v.s=⟨#[]⟩:=by rcases hv2.2.2.2.2.2.2.2 with h|h;exact h;omega
  have hvk2:v.kind=2:=by omega
  unfold afterV doneV;rw[qJ (by omega),qJ (by omega),qK h1,qJ (by omega),qJ (by omega),qK h1,hvk2];have e1:=Za5 (n:=satI (v.n+x.n)) hd h2 hvs;have e2:=Za5 (n:=v.n+x.n) hd h2 hvs;refine⟨e1.2,?_⟩;rw[e1.1,e2.1];congr 1;obtain⟨h3,h4,h5⟩:=Z9b hd h2;rw[inRange_iff]at h3 h4;unfold clampI satI;(repeat' split)<;>omega
 have h5:x.kind=4:=by omega
 unfold afterV doneV;simp only[h5,if_true,if_false,reduceIte,Int.reduceEq];have e:limitV a ⟨v.kind,1-v.n,v.s⟩=⟨v.kind,1-v.n,v.s⟩:=by unfold limitV;rw[qJ (by omega)]
 rw[e,fits_iff,val_iff];simp only;refine⟨⟨hd,⟨by omega,by omega,?_,?_,?_,?_,by omega,hv2.2.2.2.2.2.2.2⟩,hvk,?_⟩,trivial⟩
 all_goals first|omega|(intro h;omega)
theorem Z9j{a:Attr}{v:Val}(h:fitsE a v=0):smallN v.n:=by
 have h2:=val_iff.1 (fits_iff.1 h).2.1;have:v.kind=0∨v.kind=1∨v.kind=2∨v.kind=3∨v.kind=4:=by omega
 unfold smallN;rcases this with e|e|e|e|e
 ·have:=h2.2.2.1 (.inl e);omega
 ·have:=h2.2.2.2.1 e;omega
 ·have:=inRange_iff.1 (h2.2.2.2.2.1 e);omega
 ·have:=h2.2.2.2.2.2.1 e;omega
 have:=h2.2.2.1 (.inr e);omega
theorem Zj9(d:Cmd)(p:Val)(hd:smallC d):AC Tryz.prog 295 [.pv (.agg (cCmd d)),.pv (.agg (cVal p))] [] (.pv (vint (acceptsE d p))) []:=by
 refine AC.of_awp (T:=T) T_ok hm Tryz.call295 Tryz.func295 rfl rfl rfl ?_
 conv=>whnf
 repeat(any_goals((first|refine QB ?_ ?_<;>intro h<;>(try simp only[Q0,Q1,Q2,Q3,Q4,Q5,Q6,Q7,Q8,reduceCtorEq]at h)|refine .inl ⟨_,Z56 d.param p hd.1,?_⟩)<;>conv=>whnf))
 all_goals try rw[show(decide (p.kind=0)&&(decide (p.n=0)&&(decide (p.s=⟨#[]⟩)&&true)))=decide (p=noVal)from val_eq p noVal]at h
 all_goals try simp only[Q0,Q1]at h
 all_goals first
  |exact PSub.int (by simp[acceptsE, *])
  |exact PSub.int (by simp_all[acceptsE])
theorem Zed{n:Nat}{p:Nat->Bool}:(firstI n p<n∧p (firstI n p)=true∧∀j,j<firstI n p->p j=false)∨(firstI n p=n∧∀j,j<n->p j=false):=by
 unfold firstI;split
 ·rename_i i e;rw[List.find?_range_eq_some]at e;exact .inl ⟨by simpa using e.2.1,e.1,fun j hj=>by simpa using e.2.2 j hj⟩
 rename_i e;rw[List.find?_eq_none]at e;exact .inr ⟨rfl,fun j hj=>by simpa using e j (by simpa using hj)⟩
structure Checked (c:Clu):Prop where
 distinct:∀i j,i<j->j<c.attrs.length->(c.attrs.getD i default).name≠(c.attrs.getD j default).name
 attrs:c.attrs.length<=12
 cmds:∀i,i<c.commands.length->cmdE c i=0
 defs:∀i,i<c.attrs.length->defE (c.attrs.getD i default)=0
theorem Z5b{c:Clu}(h:checkE c=0):Checked c:=by
 unfold checkE at h
 split at h
 ·cases h
 split at h
 ·cases h
 rename_i hw
 split at h
 ·contradiction
 rename_i ha
 split at h
 ·contradiction
 rename_i hc;have ha:=Z1d (Classical.not_not.1 ha);refine⟨fun i j hi hj e=>?_,?_,Z1d (Classical.not_not.1 hc),fun i hi=>?_⟩
 ·have:=ha j hj;unfold attrE at this
  split at this
  ·contradiction
  rw[qK (Z0a hi (by simpa[-List.getD_eq_getElem?_getD]using e))]at this;cases this
 ·rw[Bool.not_eq_true]at hw;simp only[wideB,Bool.or_eq_false_iff,Q1]at hw;omega
 have:=ha i hi;unfold attrE at this
 split at this
 ·contradiction
 rename_i h0;exact Classical.not_not.1 h0
theorem Zor{c:Clu}{i:Nat}(h:cmdE c i=0):∀j,j<(c.commands.getD i default).effects.length->effE c (c.commands.getD i default).param ((c.commands.getD i default).effects.getD j default)=0:=by
 unfold cmdE at h
 split at h
 ·cases h
 split at h
 ·cases h
 split at h
 ·cases h
 split at h
 ·omega
 exact Z1d h
theorem Z6q{c:Clu}{p:Attr}{x:Eff}(h:effE c p x=0):(1<=x.kind∧x.kind<=4)∧attrAt c.attrs x.attr<c.attrs.length∧suitsB x (c.attrs.getD (attrAt c.attrs x.attr) default) p=true∧(x.kind=3->satI x.n=x.n):=by
 unfold effE at h
 split at h
 ·cases h
 split at h
 ·cases h
 rename_i h1 h2;have h2:=Classical.not_not.1 h2;have e:attrOf c.attrs x.attr=c.attrs.getD (attrAt c.attrs x.attr) default:=by rw[attrOf,qK h2]
 rw[e]at h
 split at h
 ·cases h
 split at h
 ·cases h
 rename_i h3 h4
 split at h
 ·cases h
 rename_i h5;refine⟨by omega,h2,by simpa using h4,fun hk=>Classical.not_not.1 fun hn=>h5 ⟨hk,hn⟩⟩
theorem Zd6{l:List Attr}{s:ByteArray}(h:attrAt l s<l.length):(l.getD (attrAt l s) default).name=s:=by
 unfold attrAt at *;rcases Zed (n:=l.length) (p:=fun i=>decide ((l.getD i default).name=s))with⟨_,h2,_⟩|⟨h1,_⟩
 ·simpa[-List.getD_eq_getElem?_getD]using h2
 omega
theorem Zd5{c:Clu}(hc:Checked c){s:ByteArray}{j:Nat}(hj:j<c.attrs.length)(h:(c.attrs.getD j default).name=s):attrAt c.attrs s=j:=by
 have hlt:attrAt c.attrs s<c.attrs.length:=by
  unfold attrAt;rcases Zed (n:=c.attrs.length) (p:=fun i=>decide ((c.attrs.getD i default).name=s))with⟨h1,_⟩|⟨_,h2⟩
  ·exact h1
  have:=h2 j hj;simp[h,-List.getD_eq_getElem?_getD]at this
 have hn:=Zd6 hlt;rcases Nat.lt_trichotomy (attrAt c.attrs s) j with h1|h1|h1
 ·exact absurd (hn.trans h.symm) (hc.distinct _ _ h1 hj)
 ·exact h1
 exact absurd (h.trans hn.symm) (hc.distinct _ _ h1 hlt)
def stepL(c:Clu)(p:Val)(x:Eff)(out:List Val):List Val:=out.set (attrAt c.attrs x.attr) (afterV x (c.attrs.getD (attrAt c.attrs x.attr) default) p (out.getD (attrAt c.attrs x.attr) default))
def applyTo(c:Clu)(d:Cmd)(p:Val)(vals:List Val):Nat->List Val
 |0=>vals
 |k+1=>stepL c p (d.effects.getD k default) (applyTo c d p vals k)
def fitsAll(c:Clu)(vals:List Val):Prop:=vals.length=c.attrs.length∧∀i,i<c.attrs.length->fitsE (c.attrs.getD i default) (vals.getD i default)=0
theorem Z9r{α:Type}[Inhabited α]{l:List α}{i j:Nat}{x:α}:(l.set i x).getD j default=if j=i∧i<l.length then x else l.getD j default:=by
 by_cases e:j=i
 ·subst e
  by_cases h:j<l.length
  ·rw[qK ⟨rfl,h⟩];simp[List.getD,h]
  rw[qJ (by omega)];simp[List.getD,Nat.le_of_not_lt h]
 rw[qJ (by omega)];simp[List.getD,List.getElem?_set_ne (Ne.symm e)]
theorem Zia{c:Clu}{d:Cmd}{p:Val}{x:Eff}{out:List Val}(hx:effE c d.param x=0)(hp:acceptsE d p=0)(h:fitsAll c out):fitsAll c (stepL c p x out):=by
 obtain⟨h1,h2,h3,h4⟩:=Z6q hx;refine⟨by rw[stepL,List.length_set];exact h.1,fun i hi=>?_⟩;rw[stepL,Z9r];split
 ·rename_i e;rw[e.1];exact(Z8r h1 h3 hp (h.2 _ h2) h4).1
 exact h.2 i hi
theorem Z42{c:Clu}{d:Cmd}{p:Val}{vals:List Val}(hd:∀j,j<d.effects.length->effE c d.param (d.effects.getD j default)=0)(hp:acceptsE d p=0)(h:fitsAll c vals):∀k,k<=d.effects.length->fitsAll c (applyTo c d p vals k)
 |0,_=>h
 |k+1,hk=>Zia (hd k (by omega)) hp (Z42 hd hp h k (by omega))
def badV(c:Clu)(vals:List Val)(i:Nat):Bool:=decide (fitsE (c.attrs.getD i default) (vals.getD i default)≠0)
def applyE(c:Clu)(s:ByteArray)(p:Val)(vals:List Val):Int:=
 if checkE c≠0 then checkE c else if ¬cmdAt c.commands s<c.commands.length then 8 else if acceptsE (cmdOf c.commands s) p≠0 then acceptsE (cmdOf c.commands s) p
 else if vals.length≠c.attrs.length then 1 else if anyN vals.length (badV c vals)=true then 1 else 0
def applyL(c:Clu)(s:ByteArray)(p:Val)(vals:List Val):List Val:=if applyE c s p vals=0 then applyTo c (cmdOf c.commands s) p vals (cmdOf c.commands s).effects.length else []
theorem Z9a{c:Clu}(hc:smallK c){s:ByteArray}:smallC (cmdOf c.commands s):=by
 unfold cmdOf;split
 ·exact hc.2.2.2.1 _
 exact⟨qe _,qe _⟩
theorem Z6l{c:Clu}(hc:Checked c){s:ByteArray}(h:cmdAt c.commands s<c.commands.length):∀j,j<(cmdOf c.commands s).effects.length->effE c (cmdOf c.commands s).param ((cmdOf c.commands s).effects.getD j default)=0:=by
 rw[cmdOf,qK h];exact Zor (hc.cmds _ h)
theorem Zb2{n:Int}(h:satI n=n):smallN n:=by unfold satI at h;unfold smallN;omega
set_option maxHeartbeats 4000000 in
theorem Zj7(c:Clu)(s:ByteArray)(p:Val)(vals:List Val)(hc:smallK c)(hl:smallL vals):AC Tryz.prog 293 [.pv (.agg (cClu c)),.pv (vstr s),.pv (.agg (cVal p)),.pv (roL 3 cVal vals)] [] (.pv (.tup [roL 3 cVal (applyL c s p vals),vint (applyE c s p vals)])) []:=by
 have hl2:vals.length<=1048576:=hl;have hds:=Z9a hc (s:=s);have hde:(cmdOf c.commands s).effects.length<=1048576:=hds.2;refine AC.of_awp (T:=T) T_ok hm Tryz.call293 Tryz.func293 rfl rfl rfl ?_
 conv=>whnf
 refine .inl ⟨_,Zbn c hc,?_⟩
 conv=>whnf
 refine⟨fun h=>?_,fun h=>?_⟩<;>(try simp only[Q0,Q1,Q2,Q3,Q4,Q5,Q6,Q7,Q8,reduceCtorEq]at h)<;>(conv=>whnf)
 ·have e:applyE c s p vals=checkE c:=by rw[applyE,qK h]
  rw[applyL,e];refine⟨?_,?_⟩<;>(conv=>whnf)
  ·exact PSub.nilL (by simp[*])
  exact .rfl
 have h0:=h;refine .inl ⟨_,Z84 c s hc,?_⟩
 conv=>whnf
 refine⟨fun h=>?_,fun h=>?_⟩<;>(try simp only[Q0,Q1,Q2,Q3,Q4,Q5,Q6,Q7,Q8,reduceCtorEq]at h)<;>(conv=>whnf)
 ·have e:applyE c s p vals=8:=by rw[applyE,qJ (by simpa using h0),qK h]
  rw[applyL,e];refine⟨?_,?_⟩<;>(conv=>whnf)
  ·exact PSub.nilL (by simp[*])
  exact .rfl
 have h1:=h;refine .inl ⟨_,Zj9 (cmdOf c.commands s) p hds,?_⟩
 conv=>whnf
 refine⟨fun h=>?_,fun h=>?_⟩<;>(try simp only[Q0,Q1,Q2,Q3,Q4,Q5,Q6,Q7,Q8,reduceCtorEq]at h)<;>(conv=>whnf)
 ·have e:applyE c s p vals=acceptsE (cmdOf c.commands s) p:=by rw[applyE,qJ (by simpa using h0),qJ (by simpa using h1),qK h]
  rw[applyL,e];refine⟨?_,?_⟩<;>(conv=>whnf)
  ·exact PSub.nilL (by simp[*])
  exact .rfl
 have h2:=h;refine⟨fun h=>?_,fun h=>?_⟩<;>(try simp only[Q0,Q1,Q2,Q3,Q4,Q5,Q6,Q7,Q8,reduceCtorEq]at h)<;>(conv=>whnf)
 ·have e:applyE c s p vals=1:=by rw[applyE,qJ (by simpa using h0),qJ (by simpa using h1),qJ (by simpa using h2),qK (by omega)]
  rw[applyL,e];refine⟨?_,?_⟩<;>(conv=>whnf)
  ·exact PSub.nilL (by simp[*])
  exact .rfl
 have h3:vals.length=c.attrs.length:=by omega
 clear h;have hk:=Z5b h0;have heff:=Z6l hk h1;refine loop_k (ι:=Nat) [3,4,6,11,46,47] [4,6,11] (fun k=>k<=vals.length∧(∀j,j<k->badV c vals j=false)) (fun k=>vals.length-k) 0 (fun k=>[(48,.pv (vint k))]) (fun _=>[]) [] ⟨qe _,fun j h=>absurd h (by omega)⟩ ?_ (fun k hk=>?_)
 ·exact QD
 obtain⟨hkn,hinv⟩:=hk
 conv=>whnf
 refine⟨fun h=>?_,fun h=>?_⟩<;>(try simp only[Q0,Q1,Q2,Q3,Q4,Q5,Q6,Q7,Q8,reduceCtorEq]at h)<;>(conv=>whnf)
 ·repeat(any_goals((first|refine QB ?_ ?_<;>intro h<;>(try simp only[Q0,Q1,Q2,Q3,Q4,Q5,Q6,Q7,Q8,reduceCtorEq]at h)|refine .inl ⟨_,Z56 (c.attrs.getD k default) (vals.getD k default) (hc.2.1 k),?_⟩|refine QI ?_|refine QK ?_|refine QW ?_)<;>conv=>whnf))
  ·have e:applyE c s p vals=1:=by rw[applyE,qJ (by simpa using h0),qJ (by simpa using h1),qJ (by simpa using h2),qJ (by omega),qK (Z0a (k:=k) (by omega) (by simpa[badV,-List.getD_eq_getElem?_getD]using h))]
   rw[applyL,e];refine⟨?_,?_⟩<;>(conv=>whnf)
   ·exact PSub.nilL (by simp[*])
   exact .rfl
  refine⟨k+1,[],⟨by omega,?_⟩,by first|omega|(dsimp only;omega),?_⟩;rotate_left
  ·exact QD
  intro j hj
  by_cases e:j=k
  ·subst e;simpa[badV,-List.getD_eq_getElem?_getD]using h
  exact hinv j (by omega)
 have hnb:anyN vals.length (badV c vals)=false:=Z0d fun j hj=>hinv j (by omega)
 have hfa:fitsAll c vals:=⟨h3,fun i hi=>by have:=hinv i (by omega);simpa[badV,-List.getD_eq_getElem?_getD]using this⟩;have e:applyE c s p vals=0:=by rw[applyE,qJ (by simpa using h0),qJ (by simpa using h1),qJ (by simpa using h2),qJ (by omega),hnb,qJ (by decide)]
 have eL:applyL c s p vals=applyTo c (cmdOf c.commands s) p vals (cmdOf c.commands s).effects.length:=by rw[applyL,qK e]
 rw[e,eL];generalize cmdOf c.commands s=d at *;have hfit:=Z42 heff h2 hfa;clear h hinv hkn hnb;refine .inr (.inl ⟨_,_,_,Zme _ _ hl2,?_⟩)
 conv=>whnf
 refine loop_k (ι:=Nat) [4,6,16,65,66] [4,6] (fun k=>k<=d.effects.length∧True) (fun k=>d.effects.length-k) 0 (fun k=>[(67,.pv (vint k))]) (fun k=>[(63,rowL 3 cVal (applyTo c d p vals k))]) [] ⟨qe _,trivial⟩ ?_ (fun k hk=>?_)
 ·(repeat'(first|exact QC|refine qa ?_ ?_));all_goals((intro i hi;exact PSubs.rfl))
 obtain⟨hkn,hinv⟩:=hk
 conv=>whnf
 refine⟨fun h=>?_,fun h=>?_⟩<;>(try simp only[Q0,Q1,Q2,Q3,Q4,Q5,Q6,Q7,Q8,reduceCtorEq]at h)<;>(conv=>whnf)
 ·repeat(any_goals((first|refine QI ?_)<;>conv=>whnf))
  have hx:=heff k (by omega);obtain⟨g1,g2,g3,g4⟩:=Z6q hx;have hf:=hfit k (by omega);have hf2:=Zia hx h2 hf;refine loop_k (ι:=Nat) [4,6,16,18,65,66,67,72,73] [4,6,18] (fun j=>j<=c.attrs.length∧True) (fun j=>c.attrs.length-j) 0 (fun j=>[(74,.pv (vint j))]) (fun j=>[(63,rowL 3 cVal (if attrAt c.attrs (d.effects.getD k default).attr<j then stepL c p (d.effects.getD k default) (applyTo c d p vals k)else applyTo c d p vals k))]) [] ⟨qe _,trivial⟩ ?_ (fun j hk=>?_)
  ·(repeat'(first|exact QC|refine qa ?_ ?_));all_goals((first|(simp only[Nat.not_lt_zero,if_false];done)|(intro i hi;simp only[Nat.not_lt_zero,if_false];exact PSubs.rfl)))
  obtain⟨hkn,hinv⟩:=hk
  conv=>whnf
  have hL:fitsAll c (if attrAt c.attrs (d.effects.getD k default).attr<j then stepL c p (d.effects.getD k default) (applyTo c d p vals k)else applyTo c d p vals k):=by split<;>assumption
  obtain⟨L,hLe⟩:∃L,L=if attrAt c.attrs (d.effects.getD k default).attr<j then stepL c p (d.effects.getD k default) (applyTo c d p vals k)else applyTo c d p vals k:=⟨_,rfl⟩
  rw[<-hLe]at hL ⊢;have hLl:L.length=c.attrs.length:=hL.1
  repeat(any_goals((first|refine QB ?_ ?_<;>intro h<;>(try simp only[Q0,Q1,Q2,Q3,Q4,Q5,Q6,Q7,Q8,reduceCtorEq]at h)|refine .inl ⟨_,Zja (d.effects.getD k default) (c.attrs.getD j default) p (L.getD j default) (hc.2.1 j) (Z9j (hL.2 j (by omega))) (fun hk3=>Zb2 (g4 hk3)),?_⟩|refine QI ?_|refine QK ?_|refine QW ?_)<;>conv=>whnf))
  ·have ej:=Zd5 hk (j:=j) (by omega) h;have e1:L=applyTo c d p vals k:=by rw[hLe,qJ (by omega)]
   refine⟨j+1,[],⟨by omega,trivial⟩,by omega,?_⟩;rw[qK (by omega),stepL,ej,<-e1];(repeat'(first|exact QC|refine qa ?_ ?_))
   ·simp
   refine Zas (i:=j) (F:=updAt _ _ _ _) (fun i hi e=>?_) (fun hi=>?_)
   ·simp only[Q4];rw[Z11 e];exact PSubs.rfl
   simp only[Q4];rw[Z19];exact PSubs.rfl
  ·have ej:attrAt c.attrs (d.effects.getD k default).attr≠j:=fun e=>h (by rw[<-e];exact Zd6 g2)
   refine⟨j+1,[],⟨by omega,trivial⟩,by omega,?_⟩;have e1:(if attrAt c.attrs (d.effects.getD k default).attr<j+1 then stepL c p (d.effects.getD k default) (applyTo c d p vals k)else applyTo c d p vals k)=L:=by
    rw[hLe]
    by_cases h5:attrAt c.attrs (d.effects.getD k default).attr<j
    ·rw[qK h5,qK (by omega)]
    rw[qJ h5,qJ (by omega)]
   rw[e1];(repeat'(first|exact QC|refine qa ?_ ?_));intro i hi;exact PSubs.rfl
  have e1:L=applyTo c d p vals (k+1):=by rw[hLe,qK (by omega),applyTo]
  refine⟨k+1,[],⟨by omega,trivial⟩,by omega,?_⟩;rw[<-e1];(repeat'(first|exact QC|refine qa ?_ ?_));intro i hi;exact PSubs.rfl
 have ek:k=d.effects.length:=by omega
 subst ek
 skip
 refine⟨?_,?_⟩<;>(conv=>whnf)
 ·exact .rfl
 exact .rfl
structure Call where
 H:Hom
 L:List Item
 Dev:Int
 C:ByteArray
 Name:ByteArray
 Param:Val
 deriving Inhabited
section
variable {H:Type} {enc:TypeId×Value->H} {w:World} {bulk:DataW H->Nat}
end
theorem Zi0(l:List Key)(k:Key):sortK (l ++ [k])=putK (sortK l) k:=by unfold sortK;rw[List.foldl_append];rfl
variable [Globals]
structure Scene where
 name:ByteArray
 items:List Item
 deriving Inhabited,DecidableEq
structure Cause where
 kind:Int
 name:ByteArray
 prio:Int
 deriving Inhabited,DecidableEq
structure Write where
 key:Key
 value:Val
 cause:Cause
 order:Int
 deriving Inhabited,DecidableEq
def cSce(s:Scene):List PV:=[vstr s.name,roL 7 cItem s.items]
def cCause(c:Cause):List PV:=[vint c.kind,vstr c.name,vint c.prio]
def cWrite(w:Write):List PV:=cKey w.key++(cVal w.value++(cCause w.cause ++ [vint w.order]))
def noScene:Scene:=⟨⟨#[]⟩,[]⟩
theorem Z6y{n:Nat}{p:Nat->Bool}:(firstI n p<n∧p (firstI n p)=true∧∀j,j<firstI n p->p j=false)∨(firstI n p=n∧∀j,j<n->p j=false):=by
 unfold firstI;split
 ·rename_i i e;rw[List.find?_range_eq_some]at e;exact .inl ⟨by simpa using e.2.1,e.1,fun j hj=>by simpa using e.2.2 j hj⟩
 rename_i e;rw[List.find?_eq_none]at e;exact .inr ⟨rfl,fun j hj=>by simpa using e j (by simpa using hj)⟩
def findI(l:List Item)(q:Key):Option Item:=l.find? fun x=>decide (x.key=q)
theorem Z6w(l:List Item)(q:Key):findI l q=if itemAt l q<l.length then some (l.getD (itemAt l q) default)else none:=by
 unfold findI itemAt;rcases Z6y (n:=l.length) (p:=fun i=>decide ((l.getD i default).key=q))with⟨h1,h2,h3⟩|⟨h1,h2⟩
 ·rw[qK h1,Z03 _ _ h1,List.find?_eq_some_iff_getElem];rw[Z03 _ _ h1]at h2;refine⟨h2,_,h1,rfl,fun j hj=>?_⟩;have:=h3 j hj;rw[Z03 _ _ (by omega)]at this;simpa using this
 rw[qJ (by omega),List.find?_eq_none];intro x hx;obtain⟨i,hi,rfl⟩:=qp hx;have:=h2 i hi;rw[Z03 _ _ hi]at this;simpa using this
theorem Z9s(l:List Item)(q:Key):getI l q=(findI l q).getD noItem:=by
 rw[getI,Z6w];split<;>rfl
def sceE(H:Hom)(l:List Item)(i:Nat):Int:=
 if(findA H (l.getD i default).key).isSome=false then 8 else if((findA H (l.getD i default).key).getD noAttr).writable=false then 24
 else if fitsE ((findA H (l.getD i default).key).getD noAttr) (l.getD i default).value≠0 then fitsE ((findA H (l.getD i default).key).getD noAttr) (l.getD i default).value
 else if(l.getD i default).version≠0 then 2 else if 0<i∧keyLess (l.getD (i-1) default).key (l.getD i default).key=false then 14 else 0
def checkS(H:Hom)(s:Scene):Int:=
 if homE H≠0 then homE H else if validName s.name=false then 10 else if 256<s.items.length then 3 else firstE s.items.length (sceE H s.items)
def applyS(s:Scene)(c:Cause)(n:Nat):List Write:=(List.range n).map fun i=>⟨(s.items.getD i default).key,(s.items.getD i default).value,c,i⟩
def sceAt(l:List Scene)(s:ByteArray):Nat:=firstI l.length fun i=>decide ((l.getD i default).name=s)
def findS(l:List Scene)(s:ByteArray):Scene:=if sceAt l s<l.length then l.getD (sceAt l s) default else noScene
def plain:List AV->Bool
 | []=>true
 | .pv _::l=>plain l
 | .fn _ []::l=>plain l
 |_::_=>false
end Go.Abs
namespace Go.Abs
open Go.Proofs Go.RowKit Go.Lib
variable {P:Program} [Globals]
theorem Z1j(k:Nat)(w:World)(dT sT ty elem:TypeId)(g o dLen dCap:Nat)(a:Addr)(sLen sCap:Nat)(cur:Array Value)(t:TypeId)(cs:List Value)(m:Nat)
  (hu:P.underlying dT=some (.slice elem)) (hz:∀w,(Go.sizeOf elem).run P w = .ok k w) (hg:w.heap[g]? = some (.cells cur t (0,0))) (hm:m=Nat.min sLen dLen) (hn:cs.length=m*k)
  (hsrc:∀j v,cs[j]? = some v->w.cell? (a.add j)=some v) (hfit:o+cs.length<=cur.size) (h1:∀v∈cs,v.oneCell'=true) :
  (Builtin.copy_ #[dT,sT] ty #[.slice (some ⟨g,o,none⟩) dLen dCap,.slice (some a) sLen sCap]).run P w =
   .ok (goInt m) (w.setRow g (cur.toList.take o++cs++cur.toList.drop (o+cs.length)).toArray):=by
 have hl:=run_loadCells_list (P:=P) w a cs hsrc;have hst:=run_storeCells_at P g o t cs 0 cur w hg (by simpa using hfit) h1;rw[hn]at hl;simp[Builtin.copy_,run_underlying hu,Builtin.lenOf,Builtin.firstCells,hz,<-hm,hl,hst]
def insL{α:Type}(l:List α)(i:Nat)(x:α):List α:=l.take i++x::l.drop i
theorem Z3g{α:Type}{l:List α}{i:Nat}{x:α}(h:i<=l.length):(insL l i x).length=l.length+1:=by
 unfold insL;simp;omega
theorem Zf5{α:Type}[Inhabited α]{l:List α}{i j:Nat}{x:α}(h:i<=l.length)(hj:j<i):(insL l i x).getD j default=l.getD j default:=by
 unfold insL;simp only[List.getD];rw[qr (by simp;omega),List.getElem?_take_of_lt hj]
theorem Zf3{α:Type}[Inhabited α]{l:List α}{i:Nat}{x:α}(h:i<=l.length):(insL l i x).getD i default=x:=by
 unfold insL;simp only[List.getD];rw[qv (by simp only[qq];omega)];simp[Nat.min_eq_left h]
theorem Zqj{α:Type}[Inhabited α]{l:List α}{i j:Nat}{x:α}(h:i<=l.length)(hj:i<j):(insL l i x).getD j default=l.getD (j-1) default:=by
 unfold insL;simp only[List.getD];rw[qv (by simp;omega),qq,Nat.min_eq_left h];obtain⟨q,rfl⟩:∃q,j=i+q+1:=⟨j-i-1,by omega⟩;rw[show i+q+1-i=q+1 from by omega,List.getElem?_cons_succ,qA];congr 2
def putC(cur:Array Value)(o:Nat)(cs:List Value):Array Value:=(cur.toList.take o++cs++cur.toList.drop (o+cs.length)).toArray
theorem Z0n{cur:Array Value}{o:Nat}{cs:List Value}(h:o+cs.length<=cur.size):(putC cur o cs).size=cur.size:=by
 unfold putC;simp;omega
theorem Z17{cur:Array Value}{o:Nat}{cs:List Value}(h:o+cs.length<=cur.size)(x:Nat):(putC cur o cs).getD x undef=if o<=x∧x<o+cs.length then cs.getD (x-o) undef else cur.getD x undef:=by
 unfold putC;simp only[qb,List.getD,List.getElem?_toArray]
 by_cases h1:x<o
 ·rw[qJ (by omega),List.append_assoc,qr (by simp;omega),List.getElem?_take_of_lt h1,Array.getElem?_toList]
 by_cases h2:x<o+cs.length
 ·rw[qK (by omega),List.append_assoc,qv (by simp;omega),qr (by simp;omega)];simp[Nat.min_eq_left (show o<=cur.size from by omega)]
 rw[qJ (by omega),qv (by simp;omega),qA,Array.getElem?_toList];congr 2;simp;omega
theorem Z18{cur:Array Value}{o:Nat}{cs:List Value}(h1:∀v∈cur.toList,v.oneCell'=true)(h2:∀v∈cs,v.oneCell'=true):∀v∈(putC cur o cs).toList,v.oneCell'=true:=by
 intro v hv;unfold putC at hv;simp only[qo]at hv;rcases hv with(hv|hv)|hv
 ·exact h1 v (qn hv)
 ·exact h2 v hv
 exact h1 v (List.mem_of_mem_drop hv)
theorem Za6{a b:List Value}{y:Nat}(h:y<a.length):(a++b).getD y undef=a.getD y undef:=by
 simp only[List.getD];rw[qr h]
theorem Z9q{a b:List Value}{y:Nat}(h:a.length<=y):(a++b).getD y undef=b.getD (y-a.length) undef:=by
 simp only[List.getD];rw[qv h]
theorem Z2r(l:List Value)(y:Nat):l.toArray.getD y undef=l.getD y undef:=by
 simp only[List.getD,qb,List.getElem?_toArray]
theorem Zb3{P:Program}{w:World}{b o:Nat}{vs:List Value}{cur:Array Value}{t:TypeId}(hb:w.heap[b]? = some (.cells cur t (0,0)))(hf:o+vs.length<=cur.size)(h1:∀v∈vs,v.oneCell'=true):w.setCells b o vs=w.setRow b (putC cur o vs):=by
 have e1:=run_storeCells_at P b o t vs 0 cur w hb (by simpa using hf) h1;have e2:=run_storeCells_cells (P:=P) b o vs 0 w (fun j hj=>by
  have h3:o+0+j<cur.size:=by omega
  simp only[World.cell?,hb];simp[show o+j<cur.size from by omega]) (fun j hj=>by simp[World.frozen?,hb]) h1
 rw[e2]at e1;exact(Result.ok.inj e1).2
theorem setRow_ext{w:World}{b:Nat}{A:Array Value}:FExt (fun c=>c=b) w (w.setRow b A):=by
 refine⟨rfl,rfl,rfl,by simp[World.setRow],fun c hc hne=>?_,qL _⟩;show(w.heap.modify b _)[c]? = _
 rw[qP,qJ (Ne.symm hne)]
theorem drew_ext{w:World}{F:Nat->Prop}:FExt F w w.drew:=⟨rfl,rfl,rfl,qL _,fun _ _ _=>rfl,Nat.le_succ _⟩
theorem Z2e{F:Nat->Prop}(w:World)(o:Obj):FExt F w (w.alloc o):=by
 refine⟨rfl,rfl,rfl,?_,fun c hc _=>Z12 w o c hc,qL _⟩;show w.heap.size<=(w.heap.push o).size
 simp
section
variable {α:Type} [Inhabited α]
theorem Z4k{St M0:Nat->Prop}{σ:Sig}{w w':World}{k i:Nat}{l:List α}{x:α}{enc:α->List PV}{g:Nat->List PV}{loc0:Loc}{b' c':Nat}{cur nv A:Array Value}{t':TypeId}(hi:Inv St M0 σ w)(h1:σ 1=none)(hl:σ 0=some loc0)(hil:i<=l.length)
  (hb:loc0.blk=some b'∨w.heap.size<=b') (hx:FExt (fun b=>loc0.blk=some b) w w') (hA:w'.heap[b']? = some (.cells A t' (0,0))) (hn:l.length+1<=c') (hmax:c'<=maxLen) (hsz:A.size=c'*k) (hone:∀v∈A.toList,v.oneCell'=true)
  (hk:∀x,(enc x).length=k) (hgx:PSubs (g 0) (enc x))
  (hold:∀j,j<l.length->∀q p,(enc (l.getD j default))[q]? = some p->PR w (Mof M0 σ) p (cur.getD (j*k+q) undef)) (hnew:∀q p,(g 0)[q]? = some p->PR w (Mof M0 σ) p (nv.getD q undef))
  (hget:∀y,y<(l.length+1)*k->A.getD y undef=if y<i*k then cur.getD y undef else if y<(i+1)*k then nv.getD (y-i*k) undef else cur.getD (y-k) undef) :
  Post P St M0 σ w [(1,rowL k enc (insL l i x)),(0,.gone)] (.own 1) (upd1 (drop1 σ 0) 1 ⟨.slice (some ⟨b',0,none⟩) (l.length+1) c',some b'⟩) (.slice (some ⟨b',0,none⟩) (l.length+1) c') w':=by
 have hsame:Same (Mof M0 σ) w w':=hx.same.mono fun b _ h=>.inr ⟨0,loc0,hl,h⟩
 have hmon:∀b,b<w.heap.size->Mof M0 (upd1 (drop1 σ 0) 1 ⟨.slice (some ⟨b',0,none⟩) (l.length+1) c',some b'⟩) b->Mof M0 σ b:=by
  intro b hbw hm;rcases hm with hm|hm
  ·exact .inl hm
  rcases Z16 hm with hm|hm
  ·exact .inr (Z2l hm)
  cases hm;rcases hb with hb|hb
  ·exact .inr ⟨0,loc0,hl,hb⟩
  omega
 have hlen:=Z3g (x:=x) hil;refine Post.moved hi h1 hl (fun b e=>by cases e;exact hb) hx (fun e=>by cases e) ?_;show OR P w' St _ _ (.row k (insL l i x).length fun j=>enc ((insL l i x).getD j default)) _
 rw[hlen];refine .row k (l.length+1) _ b' c' A t' hA hn hmax hsz (fun j _=>hk _) (fun j hj q p hp=>?_) (fun j hj=>?_)
 ·have hq:q<k:=by have:=(qf.1 hp).1;rwa[hk]at this
  have hjk:∀a c:Nat,a<c->a*k+q<c*k:=fun a c h=>qD (by rw[Nat.succ_mul];omega) (qu k (show a+1<=c from h))
  rw[hget _ (hjk _ _ hj)];rcases Nat.lt_trichotomy j i with h|h|h
  ·rw[qK (hjk _ _ h)];rw[Zf5 hil h]at hp;exact(hold j (by omega) q p hp).mono hsame hmon
  ·subst h;rw[qJ (by omega),qK (hjk _ _ (Nat.lt_succ_self j)),Nat.add_sub_cancel_left];rw[Zf3 hil]at hp;obtain⟨p0,hp0,hsub⟩:=hgx.get q p hp;exact(hsub.to _ _ _ (hnew q p0 hp0)).mono hsame hmon
  have h2:(i+1)*k<=j*k:=qu k h;have h3:i*k<=(i+1)*k:=qu k (Nat.le_succ i);rw[qJ (by omega),qJ (by omega)];rw[Zqj hil h]at hp;have e:j*k+q-k=(j-1)*k+q:=by
   obtain⟨m,rfl⟩:∃m,j=m+1:=⟨j-1,by omega⟩;rw[Nat.succ_mul,Nat.add_sub_cancel];omega
  rw[e];exact(hold (j-1) (by omega) q p hp).mono hsame hmon
 have:=hone A[j] (by simp);simpa[Array.getD,hj]using this
end
end Go.Abs
namespace Go.Abs
def posK:List Key->Key->Nat
 | [],_=>0
 |x::r,k=>if keyLess x k=true then posK r k+1 else 0
theorem Zgt(k:Key):∀l:List Key,posK l k<=l.length
 | []=>qL _
 |x::r=>by
  have:=Zgt k r;unfold posK;split
  ·simp;omega
  simp
theorem Zgu{k:Key}:∀ {l:List Key} {i:Nat},i<posK l k->keyLess (l.getD i default) k=true
 | [],i,h=>absurd h (by simp[posK])
 |x::r,i,h=>by
  unfold posK at h
  split at h
  ·rename_i hx;cases i with
   |zero=>exact hx
   |succ i=>exact Zgu (l:=r) (by omega)
  omega
theorem Zgr{k:Key}:∀ {l:List Key},posK l k<l.length->keyLess (l.getD (posK l k) default) k=false
 | [],h=>absurd h (by simp[posK])
 |x::r,h=>by
  by_cases hx:keyLess x k=true
  ·have e:posK (x::r) k=posK r k+1:=by rw[posK,qK hx]
   rw[e]at h ⊢;exact Zgr (l:=r) (by simpa using h)
  have e:posK (x::r) k=0:=by rw[posK,qJ hx]
  rw[e];simpa using hx
theorem Zgs{k:Key}{l:List Key}{i:Nat}(hi:i<=l.length)(h1:∀j,j<i->keyLess (l.getD j default) k=true)(h2:i<l.length->keyLess (l.getD i default) k=false):i=posK l k:=by
 have hle:=Zgt k l;rcases Nat.lt_trichotomy i (posK l k)with h|h|h
 ·have:=Zgu h;rw[h2 (by omega)]at this;cases this
 ·exact h
 have:=h1 _ h;rw[Zgr (by omega)]at this;cases this
theorem Zak{k:Key}:∀ {l:List Key},Asc l->(if posK l k=l.length∨l.getD (posK l k) default≠k then insL l (posK l k) k else l)=putK l k
 | [],_=>by simp[posK,putK,insL]
 |x::r,h=>by
  obtain⟨h1,h2⟩:=qQ.1 h;have ih:=Zak (k:=k) h2;unfold posK putK
  by_cases hx:keyLess x k=true
  ·rw[qK hx,qK hx,<-ih];simp only[qy,List.getD_cons_succ,Nat.add_right_cancel_iff];split
   ·simp[insL]
   rfl
  rw[qJ hx,qJ hx];simp only[qy,List.getD_cons_zero]
  by_cases e:x=k
  ·subst e;rw[qJ (by simp)];congr 1;simp only[List.filter_cons,Q8,not_true_eq_false,decide_false,Bool.false_eq_true,if_false];symm;refine List.filter_eq_self.2 fun y hy=>?_
   have:=h1 y hy;simp only[Q0];intro e;subst e;rw[Z15]at this;cases this
  rw[qK (.inr e)];simp only[insL,List.take_zero,List.nil_append,List.drop_zero];congr 1;symm;refine List.filter_eq_self.2 fun y hy=>?_
  simp only[Q0];intro e2;subst e2;rcases qk.1 hy with e3|hy
  ·exact e e3.symm
  exact hx (h1 _ hy)
open Go.Proofs
set_option maxRecDepth 10000
def nameLook(l:List ByteArray)(k:Nat):Value->Option PV
 | .string s=>if memN l k s=true then some (.val (.bool true))else none
 |_=>none
theorem Zg0{l:List ByteArray}{k:Nat}{s:ByteArray}:memN l (k+1) s=(memN l k s||decide (l.getD k default=s)):=by
 unfold memN;rw[List.range_succ,List.any_append];simp only[List.any_cons,List.any_nil,Bool.or_false]
theorem Zfy{l:List ByteArray}{k:Nat}(hk:k<l.length):(idxOf l (l.getD k default)<k)↔memN l k (l.getD k default)=true:=by
 constructor
 ·intro h;rw[<-Bool.not_eq_false];intro h2;have:idxOf l (l.getD k default)=k:=Z4i hk rfl fun j hj e=>by rw[Z4m hj e]at h2;cases h2
  omega
 intro h;simp only[memN,List.any_eq_true,List.mem_range,Q0]at h;obtain⟨j,hj,e⟩:=h;have:=Z9g (fun i=>i<l.length∧l.getD i default=l.getD k default) ⟨j,by omega,e⟩;obtain⟨m,⟨hm,hm2⟩,hmin⟩:=this;have hle:=hmin j ⟨by omega,e⟩;have:idxOf l (l.getD k default)=m:=Z4i hm hm2 fun i hi e2=>by
  have:=hmin i ⟨by omega,e2⟩;omega
 omega
theorem Zcs(l:List ByteArray)(hl:smallL l):AC Tryz.prog 50 [.pv (roL 1 cstr l)] [] (.pv (vint (wordsE l))) []:=by
 have hl2:l.length<=1048576:=hl;refine AC.of_awp (T:=T) T_ok hm Tryz.call50 Tryz.func50 rfl rfl rfl ?_
 conv=>whnf
 refine loop_k (ι:=Nat) [7,8] [] (fun k=>k<=l.length∧∀j,j<k->(if validName (l.getD j default)=false then(10:Int)else if idxOf l (l.getD j default)<j then 9 else 0)=0) (fun k=>l.length-k) 0 (fun k=>[(3,.ref 6),(9,.pv (vint k))]) (fun k=>[(6,.map (.one .str) (nameLook l k))]) [] ⟨qe _,fun j h=>absurd h (by omega)⟩ ?_ (fun k hk=>?_)
 ·(repeat'(first|exact QC|refine qa ?_ ?_));all_goals(rintro _ ⟨s,rfl⟩;simp[nameLook,memN])
 obtain⟨hkn,hinv⟩:=hk
 conv=>whnf
 repeat(any_goals((first|refine QB ?_ ?_<;>intro h<;>(try simp only[Q0,Q1,Q2,Q3,Q4,Q5,Q6,Q7,Q8,reduceCtorEq]at h)|refine .inl ⟨_,Z0t (l.getD k default),?_⟩|refine QI ?_)<;>conv=>whnf))
 ·exact PSub.int (by unfold wordsE;rw[Z06 (k:=k) (by omega) (by rw[qK h];decide) hinv,qK h])
 ·have hk:k<l.length:=by omega
  have hix:=Zfy hk;refine⟨fun p hp=>?_,fun hp=>?_⟩
  ·change (if memN l k (l.getD k default)=true then some (PV.val (.bool true))else none)=some p at hp
   by_cases hm:memN l k (l.getD k default)=true
   ·rw[qK hm]at hp;cases hp
    conv=>whnf
    exact PSub.int (by unfold wordsE;rw[Z06 (k:=k) (by omega) (by rw[qJ (by rw[h];decide),qK (hix.2 hm)];decide) hinv,qJ (by rw[h];decide),qK (hix.2 hm)])
   rw[qJ hm]at hp;cases hp
  change (if memN l k (l.getD k default)=true then some (PV.val (.bool true))else none)=none at hp;have hm:¬memN l k (l.getD k default)=true:=fun h=>by rw[qK h]at hp;cases hp
  conv=>whnf
  repeat(any_goals((first|refine QW ?_)<;>conv=>whnf))
  refine⟨k+1,[],⟨by omega,fun j hj=>?_⟩,by first|omega|(dsimp only;omega),?_⟩;(repeat'(first|exact QC|refine And.intro ?_ ?_))
  ·by_cases e:j=k
   ·subst e;rw[qJ (by rw[h];decide),qJ (fun x=>hm (hix.1 x))]
   exact hinv j (by omega)
  rintro _ ⟨s,rfl⟩
  simp only[Q4,lookPut,nameLook,Zg0,Value.string.injEq]
  by_cases e:s=l.getD k default
  ·rw[qK e,qK (by rw[qB e.symm,Bool.or_true])];rfl
  rw[qJ e,qG (fun x=>e x.symm),Bool.or_false]
 exact PSub.int (by unfold wordsE;rw[Z0c fun j hj=>hinv j (by omega)])
theorem Znd(s:Sco)(hs:smallS s):AC Tryz.prog 24 [.pv (.agg (cSco s))] [] (.pv (vint (scoE s))) []:=by
 refine AC.of_awp (T:=T) T_ok hm Tryz.call24 Tryz.func24 rfl rfl rfl ?_
 conv=>whnf
 repeat(any_goals((first|refine QB ?_ ?_<;>intro h<;>(try simp only[Q0,Q1,Q2,Q3,Q4,Q5,Q6,Q7,Q8,reduceCtorEq]at h)|refine .inl ⟨_,Z69 s.home hs.1,?_⟩|refine .inl ⟨_,Zcs s.modes hs.2.1,?_⟩|refine .inl ⟨_,Zcs s.scenes hs.2.2,?_⟩)<;>conv=>whnf))
 all_goals first
  |contradiction
  |(exfalso;omega)
  |exact PSub.rfl
  |(refine PSub.lit_sb ?_;(first|(simp[scoE, *];done)|(simp_all[scoE];done)|((try simp only[scoE]);(repeat' split)<;>(try simp only[qh,qj,qd,Q1,qc,Q0,Q6])<;>first|rfl|omega|(simp_all;done)|(simp_all;omega))))
  |(refine PSub.sb ?_;(first|(simp[scoE, *];done)|(simp_all[scoE];done)|((try simp only[scoE]);(repeat' split)<;>(try simp only[qh,qj,qd,Q1,qc,Q0,Q6])<;>first|rfl|omega|(simp_all;done)|(simp_all;omega))))
  |(refine PSub.sb_lit ?_;(first|(simp[scoE, *];done)|(simp_all[scoE];done)|((try simp only[scoE]);(repeat' split)<;>(try simp only[qh,qj,qd,Q1,qc,Q0,Q6])<;>first|rfl|omega|(simp_all;done)|(simp_all;omega))))
  |(refine PSub.int ?_;(first|(simp[scoE, *];done)|(simp_all[scoE];done)|((try simp only[scoE]);(repeat' split)<;>(try simp only[qh,qj,qd,Q1,qc,Q0,Q6])<;>first|rfl|omega|(simp_all;done)|(simp_all;omega))))
  |skip
theorem Zbs(e:Ex):AC Tryz.prog 197 [.pv (.agg (cEx e)),.pv (.agg cEx0)] [] (.pv (vbool (zeroX e))) []:=by
 refine AC.ex ?_;refine AC.of_awp (T:=T) T_ok hm Tryz.call197 Tryz.func197 rfl rfl rfl ?_
 conv=>whnf
 repeat(any_goals((first|refine QB ?_ ?_<;>intro h<;>(try simp only[Q0,Q1,Q2,Q3,Q4,Q5,Q6,Q7,Q8,reduceCtorEq]at h))<;>conv=>whnf))
 all_goals(try simp only[Z3x,Z3i,decide_true,Bool.and_true,Q1,Q0]at *)
 all_goals first
  |contradiction
  |(exfalso;omega)
  |exact PSub.rfl
  |(refine PSub.lit_sb ?_;(first|(simp[zeroX, *];done)|(simp_all[zeroX];done)|((try simp only[zeroX]);(repeat' split)<;>(try simp only[qh,qj,qd,Q1,qc,Q0,Q6])<;>first|rfl|omega|(simp_all;done)|(simp_all;omega))))
  |(refine PSub.sb ?_;(first|(simp[zeroX, *];done)|(simp_all[zeroX];done)|((try simp only[zeroX]);(repeat' split)<;>(try simp only[qh,qj,qd,Q1,qc,Q0,Q6])<;>first|rfl|omega|(simp_all;done)|(simp_all;omega))))
  |(refine PSub.sb_lit ?_;(first|(simp[zeroX, *];done)|(simp_all[zeroX];done)|((try simp only[zeroX]);(repeat' split)<;>(try simp only[qh,qj,qd,Q1,qc,Q0,Q6])<;>first|rfl|omega|(simp_all;done)|(simp_all;omega))))
  |(refine PSub.int ?_;(first|(simp[zeroX, *];done)|(simp_all[zeroX];done)|((try simp only[zeroX]);(repeat' split)<;>(try simp only[qh,qj,qd,Q1,qc,Q0,Q6])<;>first|rfl|omega|(simp_all;done)|(simp_all;omega))))
  |skip
 refine loop_k (ι:=Nat) [3,57,58] [3] (fun k=>k=0) (fun _=>0) 0 (fun k=>[(59,.pv (vint k))]) (fun _=>[]) [] rfl ?_ (fun k hk=>?_)
 ·exact QD
 subst hk
 conv=>whnf
 refine⟨fun h=>?_,fun h=>?_⟩<;>(conv=>whnf)
 ·simp only[Q0]at h;exfalso;omega
 all_goals first
  |contradiction
  |(exfalso;omega)
  |exact PSub.rfl
  |(refine PSub.lit_sb ?_;(first|(simp[zeroX, *];done)|(simp_all[zeroX];done)|((try simp only[zeroX]);(repeat' split)<;>(try simp only[qh,qj,qd,Q1,qc,Q0,Q6])<;>first|rfl|omega|(simp_all;done)|(simp_all;omega))))
  |(refine PSub.sb ?_;(first|(simp[zeroX, *];done)|(simp_all[zeroX];done)|((try simp only[zeroX]);(repeat' split)<;>(try simp only[qh,qj,qd,Q1,qc,Q0,Q6])<;>first|rfl|omega|(simp_all;done)|(simp_all;omega))))
  |(refine PSub.sb_lit ?_;(first|(simp[zeroX, *];done)|(simp_all[zeroX];done)|((try simp only[zeroX]);(repeat' split)<;>(try simp only[qh,qj,qd,Q1,qc,Q0,Q6])<;>first|rfl|omega|(simp_all;done)|(simp_all;omega))))
  |(refine PSub.int ?_;(first|(simp[zeroX, *];done)|(simp_all[zeroX];done)|((try simp only[zeroX]);(repeat' split)<;>(try simp only[qh,qj,qd,Q1,qc,Q0,Q6])<;>first|rfl|omega|(simp_all;done)|(simp_all;omega))))
  |skip
theorem Zkb(e:Ex):AC Tryz.prog 192 [.pv (.agg (cEx e))] [] (.pv (vbool (zeroX e))) []:=by
 refine AC.of_awp (T:=T) T_ok hm Tryz.call192 Tryz.func192 rfl rfl rfl ?_
 conv=>whnf
 repeat(any_goals((first|refine .inl ⟨_,Zbs e,?_⟩)<;>conv=>whnf))
 exact PSub.rfl
theorem Zka(n:Int):AC Tryz.prog 240 [.pv (vint n)] [] (.pv (vbool (decide (1<=n∧n<=250)))) []:=by
 refine AC.of_awp (T:=T) T_ok hm Tryz.call240 Tryz.func240 rfl rfl rfl ?_
 conv=>whnf
 repeat(any_goals((first|refine QB ?_ ?_<;>intro h<;>(try simp only[Q0,Q1,Q2,Q3,Q4,Q5,Q6,Q7,Q8,reduceCtorEq]at h))<;>conv=>whnf))
 all_goals first
  |contradiction
  |(exfalso;omega)
  |exact PSub.rfl
  |(refine PSub.lit_sb ?_;(first|(simp[and_true, *];done)|(simp_all[and_true];done)|((try simp only[and_true]);(repeat' split)<;>(try simp only[qh,qj,qd,Q1,qc,Q0,Q6])<;>first|rfl|omega|(simp_all;done)|(simp_all;omega))))
  |(refine PSub.sb ?_;(first|(simp[and_true, *];done)|(simp_all[and_true];done)|((try simp only[and_true]);(repeat' split)<;>(try simp only[qh,qj,qd,Q1,qc,Q0,Q6])<;>first|rfl|omega|(simp_all;done)|(simp_all;omega))))
  |(refine PSub.sb_lit ?_;(first|(simp[and_true, *];done)|(simp_all[and_true];done)|((try simp only[and_true]);(repeat' split)<;>(try simp only[qh,qj,qd,Q1,qc,Q0,Q6])<;>first|rfl|omega|(simp_all;done)|(simp_all;omega))))
  |(refine PSub.int ?_;(first|(simp[and_true, *];done)|(simp_all[and_true];done)|((try simp only[and_true]);(repeat' split)<;>(try simp only[qh,qj,qd,Q1,qc,Q0,Q6])<;>first|rfl|omega|(simp_all;done)|(simp_all;omega))))
  |skip
theorem Z6b(n:Int)(a b:ByteArray):AC Tryz.prog 191 [.pv (vint n),.pv (vstr a),.pv (vstr b)] [] (.pv (vint (namedE n a b))) []:=by
 refine AC.of_awp (T:=T) T_ok hm Tryz.call191 Tryz.func191 rfl rfl rfl ?_
 conv=>whnf
 repeat(any_goals((first|refine QB ?_ ?_<;>intro h<;>(try simp only[Q0,Q1,Q2,Q3,Q4,Q5,Q6,Q7,Q8,reduceCtorEq]at h)|refine .inl ⟨_,Zka n,?_⟩|refine .inl ⟨_,Z0t a,?_⟩|refine .inl ⟨_,Z0t b,?_⟩)<;>conv=>whnf))
 all_goals first
  |contradiction
  |(exfalso;omega)
  |exact PSub.rfl
  |(refine PSub.lit_sb ?_;(first|(simp[namedE, *];done)|(simp_all[namedE];done)|((try simp only[namedE]);(repeat' split)<;>(try simp only[qh,qj,qd,Q1,qc,Q0,Q6])<;>first|rfl|omega|(simp_all;done)|(simp_all;omega))))
  |(refine PSub.sb ?_;(first|(simp[namedE, *];done)|(simp_all[namedE];done)|((try simp only[namedE]);(repeat' split)<;>(try simp only[qh,qj,qd,Q1,qc,Q0,Q6])<;>first|rfl|omega|(simp_all;done)|(simp_all;omega))))
  |(refine PSub.sb_lit ?_;(first|(simp[namedE, *];done)|(simp_all[namedE];done)|((try simp only[namedE]);(repeat' split)<;>(try simp only[qh,qj,qd,Q1,qc,Q0,Q6])<;>first|rfl|omega|(simp_all;done)|(simp_all;omega))))
  |(refine PSub.int ?_;(first|(simp[namedE, *];done)|(simp_all[namedE];done)|((try simp only[namedE]);(repeat' split)<;>(try simp only[qh,qj,qd,Q1,qc,Q0,Q6])<;>first|rfl|omega|(simp_all;done)|(simp_all;omega))))
  |skip
set_option maxHeartbeats 1000000 in
theorem Zkc(t:Trg):AC Tryz.prog 190 [.pv (.agg (cTrg t))] [] (.pv (vbool (trgSpare t))) []:=by
 refine AC.of_awp (T:=T) T_ok hm Tryz.call190 Tryz.func190 rfl rfl rfl ?_
 conv=>whnf
 repeat(any_goals((first|refine QB ?_ ?_<;>intro h<;>(try simp only[Q0,Q1,Q2,Q3,Q4,Q5,Q6,Q7,Q8,reduceCtorEq]at h)|refine QK ?_)<;>conv=>whnf))
 all_goals
  refine PSub.sb ?_;obtain⟨k,⟨k1,k2,k3⟩,⟨e1,e2,e3⟩,nm,n,m⟩:=t;dsimp only at *;rw[Bool.eq_iff_iff];simp[trgSpare, *,@eq_comm Int 0,@eq_comm ByteArray ⟨#[]⟩,and_assoc]
set_option maxHeartbeats 1000000 in
theorem Zke(t:Trg):AC Tryz.prog 131 [.pv (.agg (cTrg t))] [] (.pv (vint (trgE t))) []:=by
 refine AC.of_awp (T:=T) T_ok hm Tryz.call131 Tryz.func131 rfl rfl rfl ?_
 conv=>whnf
 repeat(any_goals((first|refine QB ?_ ?_<;>intro h<;>(try simp only[Q0,Q1,Q2,Q3,Q4,Q5,Q6,Q7,Q8,reduceCtorEq]at h)|refine .inl ⟨_,Zkc t,?_⟩|refine .inl ⟨_,Z6b t.key.dev t.key.cluster t.key.attr,?_⟩|refine .inl ⟨_,Z6b t.event.dev t.event.cluster t.event.name,?_⟩|refine .inl ⟨_,Z0t t.name,?_⟩)<;>conv=>whnf))
 all_goals first
  |contradiction
  |(exfalso;omega)
  |exact PSub.rfl
  |(refine PSub.lit_sb ?_;(first|(simp[trgE, *];done)|(simp_all[trgE];done)|((try simp only[trgE]);(repeat' split)<;>(try simp only[qh,qj,qd,Q1,qc,Q0,Q6])<;>first|rfl|omega|(simp_all;done)|(simp_all;omega))))
  |(refine PSub.sb ?_;(first|(simp[trgE, *];done)|(simp_all[trgE];done)|((try simp only[trgE]);(repeat' split)<;>(try simp only[qh,qj,qd,Q1,qc,Q0,Q6])<;>first|rfl|omega|(simp_all;done)|(simp_all;omega))))
  |(refine PSub.sb_lit ?_;(first|(simp[trgE, *];done)|(simp_all[trgE];done)|((try simp only[trgE]);(repeat' split)<;>(try simp only[qh,qj,qd,Q1,qc,Q0,Q6])<;>first|rfl|omega|(simp_all;done)|(simp_all;omega))))
  |(refine PSub.int ?_;(first|(simp[trgE, *];done)|(simp_all[trgE];done)|((try simp only[trgE]);(repeat' split)<;>(try simp only[qh,qj,qd,Q1,qc,Q0,Q6])<;>first|rfl|omega|(simp_all;done)|(simp_all;omega))))
  |skip
set_option maxHeartbeats 1000000 in
theorem Zkd(x:Stp):AC Tryz.prog 132 [.pv (.agg (cStp x))] [] (.pv (vint (stpE x))) []:=by
 refine AC.of_awp (T:=T) T_ok hm Tryz.call132 Tryz.func132 rfl rfl rfl ?_
 conv=>whnf
 repeat(any_goals((first|refine QB ?_ ?_<;>intro h<;>(try simp only[Q0,Q1,Q2,Q3,Q4,Q5,Q6,Q7,Q8,reduceCtorEq]at h)|refine .inl ⟨_,Z6b x.key.dev x.key.cluster x.key.attr,?_⟩|refine .inl ⟨_,Z6b x.key.dev x.key.cluster x.name,?_⟩|refine .inl ⟨_,Z6a x.expr,?_⟩|refine .inl ⟨_,Zkb x.expr,?_⟩|refine .inl ⟨_,Z0t x.name,?_⟩)<;>conv=>whnf))
 all_goals(try simp only[Z3x,Z3i,decide_true,Bool.and_true,Q1,Q0]at *)
 all_goals first
  |contradiction
  |(exfalso;omega)
  |exact PSub.rfl
  |(refine PSub.lit_sb ?_;(first|(simp[stpE, *];done)|(simp_all[stpE];done)|((try simp only[stpE]);(repeat' split)<;>(try simp only[qh,qj,qd,Q1,qc,Q0,Q6])<;>first|rfl|omega|(simp_all;done)|(simp_all;omega))))
  |(refine PSub.sb ?_;(first|(simp[stpE, *];done)|(simp_all[stpE];done)|((try simp only[stpE]);(repeat' split)<;>(try simp only[qh,qj,qd,Q1,qc,Q0,Q6])<;>first|rfl|omega|(simp_all;done)|(simp_all;omega))))
  |(refine PSub.sb_lit ?_;(first|(simp[stpE, *];done)|(simp_all[stpE];done)|((try simp only[stpE]);(repeat' split)<;>(try simp only[qh,qj,qd,Q1,qc,Q0,Q6])<;>first|rfl|omega|(simp_all;done)|(simp_all;omega))))
  |(refine PSub.int ?_;(first|(simp[stpE, *];done)|(simp_all[stpE];done)|((try simp only[stpE]);(repeat' split)<;>(try simp only[qh,qj,qd,Q1,qc,Q0,Q6])<;>first|rfl|omega|(simp_all;done)|(simp_all;omega))))
  |skip
theorem Zk9(r:Rul):AC Tryz.prog 85 [.pv (.agg (cRul r))] [] (.pv (vint (rulE r))) []:=by
 refine AC.of_awp (T:=T) T_ok hm Tryz.call85 Tryz.func85 rfl rfl rfl ?_
 conv=>whnf
 repeat(any_goals((first|refine QB ?_ ?_<;>intro h<;>(try simp only[Q0,Q1,Q2,Q3,Q4,Q5,Q6,Q7,Q8,reduceCtorEq]at h)|refine .inl ⟨_,Z0t r.name,?_⟩)<;>conv=>whnf))
 all_goals first
  |contradiction
  |(exfalso;omega)
  |exact PSub.rfl
  |(refine PSub.lit_sb ?_;(first|(simp[rulE, *];done)|(simp_all[rulE];done)|((try simp only[rulE]);(repeat' split)<;>(try simp only[qh,qj,qd,Q1,qc,Q0,Q6])<;>first|rfl|omega|(simp_all;done)|(simp_all;omega))))
  |(refine PSub.sb ?_;(first|(simp[rulE, *];done)|(simp_all[rulE];done)|((try simp only[rulE]);(repeat' split)<;>(try simp only[qh,qj,qd,Q1,qc,Q0,Q6])<;>first|rfl|omega|(simp_all;done)|(simp_all;omega))))
  |(refine PSub.sb_lit ?_;(first|(simp[rulE, *];done)|(simp_all[rulE];done)|((try simp only[rulE]);(repeat' split)<;>(try simp only[qh,qj,qd,Q1,qc,Q0,Q6])<;>first|rfl|omega|(simp_all;done)|(simp_all;omega))))
  |(refine PSub.int ?_;(first|(simp[rulE, *];done)|(simp_all[rulE];done)|((try simp only[rulE]);(repeat' split)<;>(try simp only[qh,qj,qd,Q1,qc,Q0,Q6])<;>first|rfl|omega|(simp_all;done)|(simp_all;omega))))
  |skip
 rename_i hv hp0 hp1 ho1 ho8 hd1;have hcut:rulE r=if firstE r.on.length (fun i=>trgE (r.on.getD i default))≠0 then firstE r.on.length (fun i=>trgE (r.on.getD i default))else if exE r.cond≠0 then exE r.cond else firstE r.steps.length fun i=>stpE (r.steps.getD i default):=by
  unfold rulE;rw[qJ (by rw[hv];decide),qJ (by omega),qJ (by omega)]
 refine loop_k (ι:=Nat) [1,45,46] [1] (fun k=>k<=r.on.length∧∀j,j<k->trgE (r.on.getD j default)=0) (fun k=>r.on.length-k) 0 (fun k=>[(47,.pv (vint k))]) (fun _=>[]) [] ⟨qe _,fun j h=>absurd h (by omega)⟩ ?_ (fun k hk=>?_)
 ·exact QD
 obtain⟨hkn,hinv⟩:=hk
 conv=>whnf
 repeat(any_goals((first|refine QB ?_ ?_<;>intro h<;>(try simp only[Q0,Q1,Q2,Q3,Q4,Q5,Q6,Q7,Q8,reduceCtorEq]at h)|refine .inl ⟨_,Zke (r.on.getD k default),?_⟩|refine QI ?_|refine QW ?_)<;>conv=>whnf))
 ·have e:=Z06 (n:=r.on.length) (f:=fun i=>trgE (r.on.getD i default)) (by omega) h hinv;rw[hcut,e,qK h];exact PSub.rfl
 ·refine⟨k+1,[],⟨by omega,?_⟩,by first|omega|(dsimp only;omega),?_⟩;rotate_left
  ·exact QD
  intro j hj
  by_cases e:j=k
  ·subst e;first|exact h|simpa[-List.getD_eq_getElem?_getD]using h|simp_all[-List.getD_eq_getElem?_getD]
  exact hinv j (by omega)
 have e1:=Z0c (n:=r.on.length) (f:=fun i=>trgE (r.on.getD i default)) (fun j hj=>hinv j (by omega));rw[e1,qJ (by simp)]at hcut;clear hkn hinv
 repeat(any_goals((first|refine QB ?_ ?_<;>intro h<;>(try simp only[Q0,Q1,Q2,Q3,Q4,Q5,Q6,Q7,Q8,reduceCtorEq]at h)|refine .inl ⟨_,Z6a r.cond,?_⟩)<;>conv=>whnf))
 ·rw[hcut,qK h];exact PSub.rfl
 rw[qJ (by simpa using h)]at hcut;refine loop_k (ι:=Nat) [1,64,65] [1] (fun q=>q<=r.steps.length∧∀j,j<q->stpE (r.steps.getD j default)=0) (fun q=>r.steps.length-q) 0 (fun q=>[(66,.pv (vint q))]) (fun _=>[]) [] ⟨qe _,fun j h=>absurd h (by omega)⟩ ?_ (fun q hk=>?_)
 ·exact QD
 obtain⟨hkn,hinv⟩:=hk
 conv=>whnf
 repeat(any_goals((first|refine QB ?_ ?_<;>intro h<;>(try simp only[Q0,Q1,Q2,Q3,Q4,Q5,Q6,Q7,Q8,reduceCtorEq]at h)|refine .inl ⟨_,Zkd (r.steps.getD q default),?_⟩|refine QI ?_|refine QW ?_)<;>conv=>whnf))
 ·have e:=Z06 (n:=r.steps.length) (f:=fun i=>stpE (r.steps.getD i default)) (by omega) h hinv;rw[hcut,e];exact PSub.rfl
 ·refine⟨q+1,[],⟨by omega,?_⟩,by first|omega|(dsimp only;omega),?_⟩;rotate_left
  ·exact QD
  intro j hj
  by_cases e:j=q
  ·subst e;first|exact h|simpa[-List.getD_eq_getElem?_getD]using h|simp_all[-List.getD_eq_getElem?_getD]
  exact hinv j (by omega)
 rw[hcut,Z0c (fun j hj=>hinv j (by omega))];exact PSub.rfl
theorem Zec{n:Nat}{p:Nat->Bool}(h:firstI n p<n):p (firstI n p)=true:=by
 unfold firstI at h ⊢;cases hf:(List.range n).find? p with
 |none=>rw[hf]at h;exact absurd h (qM _)
 |some i=>exact List.find?_some hf
theorem Zqa{H:Hom}(h:homE H=0):∀(j i:Nat),i<j->j<H.devices.length->(H.devices.getD i default).id<(H.devices.getD j default).id:=by
 intro j
 induction j with
 |zero=>intro i hi;omega
 |succ j ih=>
  intro i hi hj;have hd:=Zes h hj;have h1:(H.devices.getD j default).id<(H.devices.getD (j+1) default).id:=by
   unfold devE at hd
   split at hd
   ·cases hd
   split at hd
   ·cases hd
   rename_i h2;have:¬(H.devices.getD (j+1) default).id<=(H.devices.getD j default).id:=fun x=>h2 ⟨by omega,x⟩
   omega
  rcases Nat.lt_or_ge i j with h2|h2
  ·have:=ih i h2 (by omega);omega
  have:i=j:=by omega
  subst this;exact h1
theorem Zp7{H:Hom}(h:homE H=0){k:Nat}(hk:k<H.devices.length):devAt H.devices (H.devices.getD k default).id=k:=
 Z0u hk (by simp) fun j hj=>by have:=Zqa h k j hj hk;simp only[Q1];omega
theorem Zpq{l:List Clu}{s:ByteArray}{q:Nat}(hq:q<l.length)(h:(l.getD q default).name=s)(hf:∀j,j<q->(l.getD j default).name≠s):firstC l s=some (l.getD q default):=by
 have:cluAt l s=q:=by
  unfold cluAt;exact Z0u hq (by simpa using h) fun j hj=>by simpa using hf j hj
 rw[Z9i,this,qK hq]
theorem Zcq(H:Hom)(id:Int)(s:ByteArray)(hH:smallH H):AC Tryz.prog 134 [.pv (.agg (cHom H)),.pv (vint id),.pv (vstr s)] [] (.pv (.tup [.agg (cClu ((partO H id s).getD noClu)),vbool (partO H id s).isSome])) []:=by
 have hl:H.clusters.length<=1048576:=hH.1.1;have hdl:H.devices.length<=1048576:=hH.2.1;refine AC.of_awp (T:=T) T_ok hm Tryz.call134 Tryz.func134 rfl rfl rfl ?_
 conv=>whnf
 repeat(any_goals((first|refine QB ?_ ?_<;>intro h<;>(try simp only[Q0,Q1,Q2,Q3,Q4,Q5,Q6,Q7,Q8,reduceCtorEq]at h)|refine .inl ⟨_,Z69 H hH,?_⟩)<;>conv=>whnf))
 ·have e:partO H id s=none:=by rw[partO,qJ];intro x;have:=x.1;simp[findB,h]at this
  rw[e];refine⟨?_,?_⟩<;>(conv=>whnf)
  ·exact Z4n
  exact PSub.lit_sb rfl
 have h0:homE H=0:=by simpa using h
 refine loop_k (ι:=Nat) [1,2,3,6,17,18] [3,6] (fun k=>k<=H.devices.length∧∀j,j<k->¬((H.devices.getD j default).id=id∧0<=idxOf (H.devices.getD j default).clusters s)) (fun k=>H.devices.length-k) 0 (fun k=>[(19,.pv (vint k))]) (fun _=>[]) [] ⟨qe _,fun j h=>absurd h (by omega)⟩ ?_ (fun k hk=>?_)
 ·exact QD
 obtain⟨hkn,hinv⟩:=hk
 conv=>whnf
 have hdc:(H.devices.getD k default).clusters.length<=1048576:=(hH.2.2 k).1
 repeat(any_goals((first|refine QB ?_ ?_<;>intro h<;>(try simp only[Q0,Q1,Q2,Q3,Q4,Q5,Q6,Q7,Q8,reduceCtorEq]at h)|refine .inl ⟨_,Z37 (H.devices.getD k default).clusters 0 s hdc,?_⟩|refine QI ?_|refine QW ?_)<;>conv=>whnf))
 ·refine⟨k+1,[],⟨by omega,?_⟩,by first|omega|(dsimp only;omega),?_⟩;rotate_left
  ·exact QD
  intro j hj
  by_cases e:j=k
  ·subst e;exact fun x=>h x.1
  exact hinv j (by omega)
 ·refine⟨k+1,[],⟨by omega,?_⟩,by first|omega|(dsimp only;omega),?_⟩;rotate_left
  ·exact QD
  intro j hj
  by_cases e:j=k
  ·subst e;exact fun x=>absurd x.2 (by omega)
  exact hinv j (by omega)
 ·rename_i hid;have hk:k<H.devices.length:=by omega
  have hat:devAt H.devices id=k:=by rw[<-hid];exact Zp7 h0 hk
  have hfb:findB H id=true:=by simp only[findB,qc,Q0,hat];exact⟨h0,hk⟩
  have hfd:findD H id=H.devices.getD k default:=by rw[findD,qK hfb,hat]
  have hp:partO H id s=firstC H.clusters s:=by rw[partO,qK ⟨hfb,by rw[hfd];exact h⟩]
  refine loop_k (ι:=Nat) [1,2,3,6,9,17,18,19,35,36] [3,6,9] (fun q=>q<=H.clusters.length∧∀j,j<q->(H.clusters.getD j default).name≠s) (fun q=>H.clusters.length-q) 0 (fun q=>[(37,.pv (vint q))]) (fun _=>[]) [] ⟨qe _,fun j h=>absurd h (by omega)⟩ ?_ (fun q hq=>?_)
  ·exact QD
  obtain⟨hqn,hinq⟩:=hq
  conv=>whnf
  repeat(any_goals((first|refine QB ?_ ?_<;>intro h<;>(try simp only[Q0,Q1,Q2,Q3,Q4,Q5,Q6,Q7,Q8,reduceCtorEq]at h)|refine QI ?_|refine QW ?_)<;>conv=>whnf))
  ·rename_i hql;have e:=Zpq (l:=H.clusters) (s:=s) (q:=q) (by omega) h hinq;rw[hp,e];refine⟨?_,?_⟩<;>(conv=>whnf)
   ·exact PSub.rfl
   exact PSub.lit_sb rfl
  ·refine⟨q+1,[],⟨by omega,?_⟩,by first|omega|(dsimp only;omega),?_⟩;rotate_left
   ·exact QD
   intro j hj
   by_cases e:j=q
   ·subst e;exact h
   exact hinq j (by omega)
  exfalso;obtain⟨i,hi,he⟩:=Zev (l:=(findD H id).clusters) (s:=s) (by rw[hfd];assumption);obtain⟨c,hc⟩:=Zdg (Z9h hfb) hi;rw[he,Z9i]at hc
  split at hc
  ·rename_i hlt;have:=Zec hlt;exact hinq (cluAt H.clusters s) (by omega) (qC this)
  cases hc
 have e:partO H id s=none:=by
  rw[partO,qJ];intro x;have hb:=x.1;have hx:=x.2;rw[findD,qK hb]at hx;simp only[findB,qc,Q0]at hb;have hid:(H.devices.getD (devAt H.devices id) default).id=id:=by
   exact qC (Zec hb.2)
  exact hinv _ (by omega) ⟨hid,hx⟩
 rw[e];refine⟨?_,?_⟩<;>(conv=>whnf)
 ·exact Z4n
 exact PSub.lit_sb rfl
theorem Z5r{H:Hom}(hH:smallH H){id:Int}{s:ByteArray}:smallK ((partO H id s).getD noClu):=by
 cases h:partO H id s with
 |none=>exact Z7r
 |some c=>
  unfold partO at h
  split at h
  ·exact Z3d hH.1 h
  cases h
theorem Znj(s:Sco)(t:Trg)(hs:smallS s):AC Tryz.prog 86 [.pv (.agg (cSco s)),.pv (.agg (cTrg t))] [] (.pv (vint (fireE s t))) []:=by
 have hk:=Z5r hs.1 (id:=t.event.dev) (s:=t.event.cluster);refine AC.of_awp (T:=T) T_ok hm Tryz.call86 Tryz.func86 rfl rfl rfl ?_
 conv=>whnf
 repeat(any_goals((first|refine QB ?_ ?_<;>intro h<;>(try simp only[Q0,Q1,Q2,Q3,Q4,Q5,Q6,Q7,Q8,reduceCtorEq]at h)|refine .inl ⟨_,Z4z s.home t.key hs.1,?_⟩|refine .inl ⟨_,Zcq s.home t.event.dev t.event.cluster hs.1,?_⟩|refine .inl ⟨_,Z37 ((partO s.home t.event.dev t.event.cluster).getD noClu).events 0 t.event.name hk.2.2.2.2,?_⟩|refine .inl ⟨_,Z37 s.modes 0 t.name hs.2.1,?_⟩)<;>conv=>whnf))
 all_goals first
  |contradiction
  |(exfalso;omega)
  |exact PSub.rfl
  |(refine PSub.lit_sb ?_;(first|(simp[fireE, *];done)|(simp_all[fireE];done)|((try simp only[fireE]);(repeat' split)<;>(try simp only[qh,qj,qd,Q1,qc,Q0,Q6])<;>first|rfl|omega|(simp_all;done)|(simp_all;omega))))
  |(refine PSub.sb ?_;(first|(simp[fireE, *];done)|(simp_all[fireE];done)|((try simp only[fireE]);(repeat' split)<;>(try simp only[qh,qj,qd,Q1,qc,Q0,Q6])<;>first|rfl|omega|(simp_all;done)|(simp_all;omega))))
  |(refine PSub.sb_lit ?_;(first|(simp[fireE, *];done)|(simp_all[fireE];done)|((try simp only[fireE]);(repeat' split)<;>(try simp only[qh,qj,qd,Q1,qc,Q0,Q6])<;>first|rfl|omega|(simp_all;done)|(simp_all;omega))))
  |(refine PSub.int ?_;(first|(simp[fireE, *];done)|(simp_all[fireE];done)|((try simp only[fireE]);(repeat' split)<;>(try simp only[qh,qj,qd,Q1,qc,Q0,Q6])<;>first|rfl|omega|(simp_all;done)|(simp_all;omega))))
  |skip
theorem Zdl{s:Sco}{x:Stp}(h:(partO s.home x.key.dev x.key.cluster).isSome=false):comO s x=none:=by
 unfold comO;cases hp:partO s.home x.key.dev x.key.cluster with
 |none=>rfl
 |some c=>rw[hp]at h;cases h
theorem Z5d{s:Sco}{x:Stp}(h:(partO s.home x.key.dev x.key.cluster).isSome=true):comO s x=if cmdAt ((partO s.home x.key.dev x.key.cluster).getD noClu).commands x.name<((partO s.home x.key.dev x.key.cluster).getD noClu).commands.length then some (cmdOf ((partO s.home x.key.dev x.key.cluster).getD noClu).commands x.name)else none:=by
 unfold comO;cases hp:partO s.home x.key.dev x.key.cluster with
 |none=>rw[hp]at h;cases h
 |some c=>rfl
theorem Znh(s:Sco)(x:Stp)(hs:smallS s):AC Tryz.prog 137 [.pv (.agg (cSco s)),.pv (.agg (cStp x))] [] (.pv (vint (comE s x))) []:=by
 have hk:=Z5r hs.1 (id:=x.key.dev) (s:=x.key.cluster);refine AC.of_awp (T:=T) T_ok hm Tryz.call137 Tryz.func137 rfl rfl rfl ?_
 conv=>whnf
 repeat(any_goals((first|refine QB ?_ ?_<;>intro h<;>(try simp only[Q0,Q1,Q2,Q3,Q4,Q5,Q6,Q7,Q8,reduceCtorEq]at h)|refine .inl ⟨_,Zcq s.home x.key.dev x.key.cluster hs.1,?_⟩|refine .inl ⟨_,Z84 ((partO s.home x.key.dev x.key.cluster).getD noClu) x.name hk,?_⟩|refine .inl ⟨_,Z8n s x.expr (cmdOf ((partO s.home x.key.dev x.key.cluster).getD noClu).commands x.name).param.kind hs,?_⟩|refine .inl ⟨_,Zbs x.expr,?_⟩)<;>conv=>whnf))
 ·rw[comE,Zdl h];exact PSub.rfl
 ·rename_i h1;rw[comE,Z5d h1,qJ h];exact PSub.rfl
 ·rename_i h1 h2;rw[comE,Z5d h1,if_pos h2];dsimp only;rw[if_pos h];exact PSub.rfl
 ·rename_i h1 h2 h3;rw[comE,Z5d h1,if_pos h2];dsimp only;rw[if_neg (by simpa using h3),if_neg (by rw[h];decide)];exact PSub.rfl
 rename_i h1 h2 h3;rw[comE,Z5d h1,if_pos h2];dsimp only;rw[if_neg (by simpa using h3),if_pos h];exact PSub.rfl
set_option maxHeartbeats 1000000 in
theorem Zni(s:Sco)(x:Stp)(hs:smallS s):AC Tryz.prog 88 [.pv (.agg (cSco s)),.pv (.agg (cStp x))] [] (.pv (vint (doE s x))) []:=by
 refine AC.of_awp (T:=T) T_ok hm Tryz.call88 Tryz.func88 rfl rfl rfl ?_
 conv=>whnf
 repeat(any_goals((first|refine QB ?_ ?_<;>intro h<;>(try simp only[Q0,Q1,Q2,Q3,Q4,Q5,Q6,Q7,Q8,reduceCtorEq]at h)|refine .inl ⟨_,Z4z s.home x.key hs.1,?_⟩|refine .inl ⟨_,Z8n s x.expr ((findA s.home x.key).getD noAttr).kind hs,?_⟩|refine .inl ⟨_,Znh s x hs,?_⟩|refine .inl ⟨_,Z37 s.scenes 0 x.name hs.2.2,?_⟩|refine .inl ⟨_,Z37 s.modes 0 x.name hs.2.1,?_⟩)<;>conv=>whnf))
 all_goals first
  |contradiction
  |(exfalso;omega)
  |exact PSub.rfl
  |(refine PSub.lit_sb ?_;(first|(simp[doE, *];done)|(simp_all[doE];done)|((try simp only[doE]);(repeat' split)<;>(try simp only[qh,qj,qd,Q1,qc,Q0,Q6])<;>first|rfl|omega|(simp_all;done)|(simp_all;omega))))
  |(refine PSub.sb ?_;(first|(simp[doE, *];done)|(simp_all[doE];done)|((try simp only[doE]);(repeat' split)<;>(try simp only[qh,qj,qd,Q1,qc,Q0,Q6])<;>first|rfl|omega|(simp_all;done)|(simp_all;omega))))
  |(refine PSub.sb_lit ?_;(first|(simp[doE, *];done)|(simp_all[doE];done)|((try simp only[doE]);(repeat' split)<;>(try simp only[qh,qj,qd,Q1,qc,Q0,Q6])<;>first|rfl|omega|(simp_all;done)|(simp_all;omega))))
  |(refine PSub.int ?_;(first|(simp[doE, *];done)|(simp_all[doE];done)|((try simp only[doE]);(repeat' split)<;>(try simp only[qh,qj,qd,Q1,qc,Q0,Q6])<;>first|rfl|omega|(simp_all;done)|(simp_all;omega))))
  |skip
theorem Z5w{r:Rul}(h:rulE r=0):r.on.length<=8∧r.steps.length<=8:=by
 unfold rulE at h
 split at h
 ·cases h
 split at h
 ·cases h
 split at h
 ·cases h
 omega
theorem Znf(s:Sco)(r:Rul)(hs:smallS s):AC Tryz.prog 51 [.pv (.agg (cSco s)),.pv (.agg (cRul r))] [] (.pv (vint (ruleE s r))) []:=by
 refine AC.of_awp (T:=T) T_ok hm Tryz.call51 Tryz.func51 rfl rfl rfl ?_
 conv=>whnf
 repeat(any_goals((first|refine QB ?_ ?_<;>intro h<;>(try simp only[Q0,Q1,Q2,Q3,Q4,Q5,Q6,Q7,Q8,reduceCtorEq]at h)|refine .inl ⟨_,Zk9 r,?_⟩)<;>conv=>whnf))
 ·rw[ruleE,qK h];exact PSub.rfl
 have hr0:rulE r=0:=by simpa using h
 have h8:r.on.length<=8∧r.steps.length<=8:=Z5w hr0;have hcut:ruleE s r=if firstE r.on.length (fun i=>fireE s (r.on.getD i default))≠0 then firstE r.on.length (fun i=>fireE s (r.on.getD i default))else if wantK s r.cond 1≠0 then wantK s r.cond 1 else firstE r.steps.length fun i=>doE s (r.steps.getD i default):=by
  unfold ruleE;rw[qJ (by simpa using h)]
 clear h;refine loop_k (ι:=Nat) [2,3,19,20] [2,3] (fun k=>k<=r.on.length∧∀j,j<k->fireE s (r.on.getD j default)=0) (fun k=>r.on.length-k) 0 (fun k=>[(21,.pv (vint k))]) (fun _=>[]) [] ⟨qe _,fun j h=>absurd h (by omega)⟩ ?_ (fun k hk=>?_)
 ·exact QD
 obtain⟨hkn,hinv⟩:=hk
 conv=>whnf
 repeat(any_goals((first|refine QB ?_ ?_<;>intro h<;>(try simp only[Q0,Q1,Q2,Q3,Q4,Q5,Q6,Q7,Q8,reduceCtorEq]at h)|refine .inl ⟨_,Znj s (r.on.getD k default) hs,?_⟩|refine QI ?_|refine QW ?_)<;>conv=>whnf))
 ·have e:=Z06 (n:=r.on.length) (f:=fun i=>fireE s (r.on.getD i default)) (by omega) h hinv;rw[hcut,e,qK h];exact PSub.rfl
 ·refine⟨k+1,[],⟨by omega,?_⟩,by first|omega|(dsimp only;omega),?_⟩;rotate_left
  ·exact QD
  intro j hj
  by_cases e:j=k
  ·subst e;first|exact h|simpa[-List.getD_eq_getElem?_getD]using h|simp_all[-List.getD_eq_getElem?_getD]
  exact hinv j (by omega)
 have e1:=Z0c (n:=r.on.length) (f:=fun i=>fireE s (r.on.getD i default)) (fun j hj=>hinv j (by omega));rw[e1,qJ (by simp)]at hcut;clear hkn hinv
 repeat(any_goals((first|refine QB ?_ ?_<;>intro h<;>(try simp only[Q0,Q1,Q2,Q3,Q4,Q5,Q6,Q7,Q8,reduceCtorEq]at h)|refine .inl ⟨_,Z8n s r.cond 1 hs,?_⟩)<;>conv=>whnf))
 ·rw[hcut,qK h];exact PSub.rfl
 rw[qJ (by simpa using h)]at hcut;refine loop_k (ι:=Nat) [2,3,40,41] [2,3] (fun q=>q<=r.steps.length∧∀j,j<q->doE s (r.steps.getD j default)=0) (fun q=>r.steps.length-q) 0 (fun q=>[(42,.pv (vint q))]) (fun _=>[]) [] ⟨qe _,fun j h=>absurd h (by omega)⟩ ?_ (fun q hk=>?_)
 ·exact QD
 obtain⟨hkn,hinv⟩:=hk
 conv=>whnf
 repeat(any_goals((first|refine QB ?_ ?_<;>intro h<;>(try simp only[Q0,Q1,Q2,Q3,Q4,Q5,Q6,Q7,Q8,reduceCtorEq]at h)|refine .inl ⟨_,Zni s (r.steps.getD q default) hs,?_⟩|refine QI ?_|refine QW ?_)<;>conv=>whnf))
 ·have e:=Z06 (n:=r.steps.length) (f:=fun i=>doE s (r.steps.getD i default)) (by omega) h hinv;rw[hcut,e];exact PSub.rfl
 ·refine⟨q+1,[],⟨by omega,?_⟩,by first|omega|(dsimp only;omega),?_⟩;rotate_left
  ·exact QD
  intro j hj
  by_cases e:j=q
  ·subst e;first|exact h|simpa[-List.getD_eq_getElem?_getD]using h|simp_all[-List.getD_eq_getElem?_getD]
  exact hinv j (by omega)
 rw[hcut,Z0c (fun j hj=>hinv j (by omega))];exact PSub.rfl
theorem Z7l{l:List Rul}{k:Nat}(h:k<l.length):(l.map Rul.name).getD k default=(l.getD k default).name:=by
 simp[List.getD,h]
theorem Zd3{s:Sco}{l:List Rul}{k:Nat}(hk:k<l.length)(h:ruleE s (l.getD k default)=0):atE s l k=if memN (l.map Rul.name) k (l.getD k default).name=true then 9 else 0:=by
 have:=Zfy (l:=l.map Rul.name) (k:=k) (by simpa using hk);rw[Z7l hk]at this;rw[atE,qJ (by simpa using h)]
 by_cases c:memN (l.map Rul.name) k (l.getD k default).name=true
 ·rw[qK c,qK (this.2 c)]
 rw[qJ c,qJ (fun x=>c (this.1 x))]
set_option maxHeartbeats 1000000 in
theorem Zng(s:Sco)(l:List Rul)(hs:smallS s):AC Tryz.prog 25 [.pv (.agg (cSco s)),.pv (roL 15 cRul l)] [] (.pv (.tup [vint (rulesE s l).1,vint (rulesE s l).2])) []:=by
 refine AC.of_awp (T:=T) T_ok hm Tryz.call25 Tryz.func25 rfl rfl rfl ?_
 conv=>whnf
 refine⟨fun h=>?_,fun h=>?_⟩<;>(try simp only[Q0,Q1,Q2,Q3,Q4,Q5,Q6,Q7,Q8,reduceCtorEq]at h)<;>(conv=>whnf)
 ·rw[rulesE,qK (by omega)]
  skip
  refine⟨?_,?_⟩<;>(conv=>whnf)
  all_goals exact PSub.rfl
 have h40:¬40<l.length:=by omega
 refine loop_k (ι:=Nat) [2,14,15] [2] (fun k=>k<=l.length∧∀j,j<k->atE s l j=0) (fun k=>l.length-k) 0 (fun k=>[(6,.ref 13),(16,.pv (vint k))]) (fun k=>[(13,.map (.one .str) (nameLook (l.map Rul.name) k))]) [] ⟨qe _,fun j h=>absurd h (by omega)⟩ ?_ (fun k hk=>?_)
 ·(repeat'(first|exact QC|refine qa ?_ ?_));all_goals(rintro _ ⟨s,rfl⟩;simp[nameLook,memN])
 obtain⟨hkn,hinv⟩:=hk
 conv=>whnf
 repeat(any_goals((first|refine QB ?_ ?_<;>intro h<;>(try simp only[Q0,Q1,Q2,Q3,Q4,Q5,Q6,Q7,Q8,reduceCtorEq]at h)|refine .inl ⟨_,Znf s (l.getD k default) hs,?_⟩|refine QI ?_)<;>conv=>whnf))
 ·have e:atE s l k=ruleE s (l.getD k default):=by rw[atE,qK h]
  rw[Z7n (k:=k) h40 (by omega) (by rw[e];exact h) hinv,e];refine⟨?_,?_⟩<;>(conv=>whnf)
  all_goals exact PSub.rfl
 ·have hk:k<l.length:=by omega
  have hat:=Zd3 (s:=s) hk h;refine⟨fun p hp=>?_,fun hp=>?_⟩
  ·change (if memN (l.map Rul.name) k (l.getD k default).name=true then some (PV.val (.bool true))else none)=some p at hp
   by_cases hm:memN (l.map Rul.name) k (l.getD k default).name=true
   ·rw[qK hm]at hp;cases hp;rw[qK hm]at hat
    conv=>whnf
    rw[Z7n (k:=k) h40 hk (by rw[hat];decide) hinv,hat]
    skip
    refine⟨?_,?_⟩<;>(conv=>whnf)
    all_goals exact PSub.rfl
   rw[qJ hm]at hp;cases hp
  change (if memN (l.map Rul.name) k (l.getD k default).name=true then some (PV.val (.bool true))else none)=none at hp;have hm:¬memN (l.map Rul.name) k (l.getD k default).name=true:=fun h=>by rw[qK h]at hp;cases hp
  rw[qJ hm]at hat
  conv=>whnf
  repeat(any_goals((first|refine QW ?_)<;>conv=>whnf))
  refine⟨k+1,[],⟨by omega,fun j hj=>?_⟩,by first|omega|(dsimp only;omega),?_⟩;(repeat'(first|exact QC|refine And.intro ?_ ?_))
  ·by_cases e:j=k
   ·subst e;exact hat
   exact hinv j (by omega)
  rintro _ ⟨s,rfl⟩
  simp only[Q4,lookPut,nameLook,Zg0,Value.string.injEq,Z7l hk]
  by_cases e:s=(l.getD k default).name
  ·rw[qK e,qK (by rw[qB e.symm,Bool.or_true])];rfl
  rw[qJ e,qG (fun x=>e x.symm),Bool.or_false]
 rw[Zhg h40 fun j hj=>hinv j (by omega)];refine⟨?_,?_⟩<;>(conv=>whnf)
 all_goals exact PSub.rfl
open Go.RowKit Go.Shelf Go.Sort
variable [Globals]
section
variable {P:Program} {ρ:Ren} {α:Type} [Inhabited α]
theorem Zi3{encV:α->List Value}{k:Nat}{w:World}{b n:Nat}{d:Array α}{os:Array Obj}:FExt (fun c=>c=b) w (Proofs.sortWorldK encV k w b 0 n d os):=by
 refine⟨rfl,rfl,rfl,by simp[Proofs.sortWorldK,grow,putRowK,Sort.ahead],fun c hc hne=>?_,by simp[Proofs.sortWorldK,grow,putRowK,putRow,mapBlock,Sort.ahead]⟩;show((putRowK encV k (Sort.ahead w n) b 0 d).heap++os)[c]? = _
 rw[Array.getElem?_append_left (by simp[putRowK,Sort.ahead];exact hc)];simp only[putRowK,putRow,mapBlock,Sort.ahead];rw[qP];simp[Ne.symm hne]
theorem Zi4{encV:α->List Value}{k:Nat}{w:World}{b n:Nat}{d:Array α}{os:Array Obj}{vs:Array Value}{t:TypeId}(hb:w.heap[b]? = some (.cells vs t (0,0))) :
  (Proofs.sortWorldK encV k w b 0 n d os).heap[b]? = some (.cells (Sort.putCells id 0 (flatK encV k d) vs) t (0,0)):=by
 have hlt:=Z0e hb;show((putRowK encV k (Sort.ahead w n) b 0 d).heap++os)[b]? = _
 rw[Array.getElem?_append_left (by simp[putRowK,Sort.ahead];exact hlt)];simp only[putRowK,putRow,mapBlock,Sort.ahead];rw[qP];simp[hb,onCells]
end
end Go.Abs
