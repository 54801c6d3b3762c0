/- YtipbekclhmbclaaGreatDoorX06: walks and contracts. -/
import Derived.Test.YtipbekclhmbclaaGreatDoorX05

set_option linter.unusedVariables false
set_option linter.unusedSimpArgs false
set_option linter.unusedSectionVars false

namespace Go.Abs
open Go.Proofs
set_option maxRecDepth 10000
theorem Zm9(H:Hom)(s:Scene)(hH:smallH H)(hs:smallL s.items):AC Tryz.prog 302 [.pv (.agg (cHom H)),.pv (.agg (cSce s))] [] (.pv (vint (checkS H s))) []:=by
 have hl:s.items.length<=1048576:=hs;refine AC.of_awp (T:=T) T_ok hm Tryz.call302 Tryz.func302 rfl rfl rfl ?_
 conv=>whnf
 repeat(any_goals((first|refine QB ?_ ?_<;>intro h<;>(try simp only[Q0,Q1,Q2,Q3,Q4,Q5,Q6,Q7,Q8,reduceCtorEq]at h)|refine .inl ⟨_,Z69 H hH,?_⟩|refine .inl ⟨_,Z0t s.name,?_⟩)<;>conv=>whnf))
 ·exact PSub.int (by rw[checkS,qK h])
 ·rename_i h0;exact PSub.int (by rw[checkS,qJ (by simpa using h0),qK h])
 ·rename_i h0 h1;exact PSub.int (by rw[checkS,qJ (by simpa using h0),qJ (by simp[h1]),qK (by omega)])
 rename_i h0 h1;have e0:checkS H s=firstE s.items.length (sceE H s.items):=by rw[checkS,qJ (by simpa using h0),qJ (by simp[h1]),qJ (by omega)]
 rw[e0];clear e0;refine loop_k (ι:=Nat) [2,3,25,26] [2,3] (fun k=>k<=s.items.length∧(∀j,j<k->sceE H s.items j=0)) (fun k=>s.items.length-k) 0 (fun k=>[(27,.pv (vint k))]) (fun _=>[]) [] ⟨qe _,fun j h=>absurd h (by omega)⟩ ?_ (fun k hk=>?_)
 ·exact QD
 obtain⟨hkn,hinv⟩:=hk
 conv=>whnf
 have hk1:((k:Int)-1).toNat=k-1:=by omega
 repeat(any_goals((first|refine QB ?_ ?_<;>intro h<;>(try simp only[Q0,Q1,Q2,Q3,Q4,Q5,Q6,Q7,Q8,reduceCtorEq]at h)|refine .inl ⟨_,Z4z H (s.items.getD k default).key hH,?_⟩|refine .inl ⟨_,Z56 ((findA H (s.items.getD k default).key).getD noAttr) (s.items.getD k default).value (Z60 hH),?_⟩|refine .inl ⟨_,Z3z (s.items.getD ((k:Int)-1).toNat default).key (s.items.getD k default).key,?_⟩|refine QI ?_|refine QK ?_|refine QW ?_)<;>conv=>whnf))
 ·have e:sceE H s.items k=8:=by simp only[sceE,qK h]
  exact PSub.int (by rw[Z06 (k:=k) (by omega) (by rw[e];decide) hinv,e])
 ·have e:sceE H s.items k=24:=by simp[sceE, *,-List.getD_eq_getElem?_getD]
  exact PSub.int (by rw[Z06 (k:=k) (by omega) (by rw[e];decide) hinv,e])
 ·have e:sceE H s.items k=fitsE ((findA H (s.items.getD k default).key).getD noAttr) (s.items.getD k default).value:=by
   simp only[sceE, *,Bool.true_eq_false,if_false];exact qK h
  exact PSub.int (by rw[Z06 (k:=k) (by omega) (by rw[e];exact h) hinv,e])
 ·have e:sceE H s.items k=2:=by simp[sceE, *,-List.getD_eq_getElem?_getD]
  exact PSub.int (by rw[Z06 (k:=k) (by omega) (by rw[e];decide) hinv,e])
 ·rename_i hk;rw[hk1]at h;have e:sceE H s.items k=14:=by simp[sceE, *,-List.getD_eq_getElem?_getD];omega
  exact PSub.int (by rw[Z06 (k:=k) (by omega) (by rw[e];decide) hinv,e])
 ·rename_i hk;rw[hk1]at h;have e:sceE H s.items k=0:=by simp[sceE, *,-List.getD_eq_getElem?_getD]
  refine⟨k+1,[],⟨by omega,?_⟩,by first|omega|(dsimp only;omega),?_⟩;rotate_left
  ·exact QD
  intro j hj
  by_cases ej:j=k
  ·subst ej;exact e
  exact hinv j (by omega)
 ·have e:sceE H s.items k=0:=by simp[sceE, *,-List.getD_eq_getElem?_getD];omega
  refine⟨k+1,[],⟨by omega,?_⟩,by first|omega|(dsimp only;omega),?_⟩;rotate_left
  ·exact QD
  intro j hj
  by_cases ej:j=k
  ·subst ej;exact e
  exact hinv j (by omega)
 exact PSub.int (by rw[Z0c fun j hj=>hinv j (by omega)])
theorem Zxa(a b:Write):(decide (a.key.dev=b.key.dev)&&(decide (a.key.cluster=b.key.cluster)&&(decide (a.key.attr=b.key.attr)&&(decide (a.value.kind=b.value.kind)&&(decide (a.value.n=b.value.n)&&(decide (a.value.s=b.value.s) &&
  (decide (a.cause.kind=b.cause.kind)&&(decide (a.cause.name=b.cause.name)&&(decide (a.cause.prio=b.cause.prio)&&(decide (a.order=b.order)&&true))))))))))=decide (a=b):=by
 obtain⟨⟨a1,a2,a3⟩,⟨a4,a5,a6⟩,⟨a7,a8,a9⟩,a0⟩:=a;obtain⟨⟨b1,b2,b3⟩,⟨b4,b5,b6⟩,⟨b7,b8,b9⟩,b0⟩:=b;rw[qt];simp[and_assoc]
theorem Z8x{s:Scene}{c:Cause}{k:Nat}:applyS s c (k+1)=applyS s c k ++ [⟨(s.items.getD k default).key,(s.items.getD k default).value,c,k⟩]:=by
 unfold applyS;rw[List.range_succ];simp
theorem Zm8(s:Scene)(c:Cause)(hs:s.items.length<=8388600):AC Tryz.prog 303 [.pv (.agg (cSce s)),.pv (.agg (cCause c))] [] (.pv (roL 10 cWrite (applyS s c s.items.length))) []:=by
 refine AC.of_awp (T:=T) T_ok hm Tryz.call303 Tryz.func303 rfl rfl rfl ?_
 conv=>whnf
 refine loop_k (ι:=Nat) [3,9,10] [3] (fun k=>k<=s.items.length∧True) (fun k=>s.items.length-k) 0 (fun k=>[(5,.own 500),(11,.pv (vint k))]) (fun k=>[(500,rowL 10 cWrite (applyS s c k))]) [] ⟨qe _,trivial⟩ ?_ (fun k hk=>?_)
 ·(repeat'(first|exact QC|refine qa ?_ ?_));all_goals(first|(simp;done)|exact PSubs.rfl|skip)
 obtain⟨hkn,hinv⟩:=hk
 conv=>whnf
 have hlen:(applyS s c k).length=k:=by simp[applyS]
 repeat(any_goals((first|refine QB ?_ ?_<;>intro h<;>(try simp only[Q0,Q1,Q2,Q3,Q4,Q5,Q6,Q7,Q8,reduceCtorEq]at h)|refine QI ?_|refine QW ?_)<;>conv=>whnf))
 ·refine⟨k+1,[(500,25)],⟨by omega,trivial⟩,by omega,?_⟩;rw[Z8x];(repeat'(first|exact QC|refine qa ?_ ?_))
  ·simp
  refine Z05 (fun i hi=>by simp only[qK hi];exact PSubs.rfl) (by simp only[qJ (qM _),Nat.sub_self];exact PSubs.rfl)
 have e:k=s.items.length:=by omega
 subst e;exact .rfl
theorem Z8c(v:Val):AC Tryz.prog 47 [.pv (.agg (cVal v))] [] (.pv (.agg (cEx (.mk 1 0 0 ⟨#[]⟩ v noKey [])))) []:=by
 refine AC.of_awp (T:=T) T_ok hm Tryz.call47 Tryz.func47 rfl rfl rfl ?_
 conv=>whnf
 all_goals exact QE
theorem Zkw(b:Bool):AC Tryz.prog 46 [.pv (vbool b)] [] (.pv (.agg (cEx (.mk 1 0 0 ⟨#[]⟩ ⟨1,if b=true then 1 else 0,⟨#[]⟩⟩ noKey [])))) []:=by
 refine AC.of_awp (T:=T) T_ok hm Tryz.call46 Tryz.func46 rfl rfl rfl ?_
 conv=>whnf
 repeat(any_goals((first|refine QB ?_ ?_<;>intro h<;>(try simp only[Q0,Q1,Q2,Q3,Q4,Q5,Q6,Q7,Q8,reduceCtorEq]at h)|refine .inl ⟨_,Z8c ⟨1,1,⟨#[]⟩⟩,?_⟩|refine .inl ⟨_,Z8c ⟨1,0,⟨#[]⟩⟩,?_⟩)<;>conv=>whnf))
 ·subst h;rw[qK rfl];exact PSub.rfl
 subst h;rw[qJ (by decide)];exact PSub.rfl
theorem Zts(s:Sco)(l:List Rul):(rulesE s l).2=0↔l.length<=40∧∀i,i<l.length->atE s l i=0:=by
 unfold rulesE
 by_cases h:40<l.length
 ·rw[qK h];exact⟨fun x=>(by cases x),fun x=>by omega⟩
 rw[qJ h];split
 ·rename_i i hi;have h1:=List.find?_some hi;have h2:=List.mem_of_find?_eq_some hi;simp only[List.mem_range]at h2;exact⟨fun x=>absurd x (qC h1),fun x=>x.2 i h2⟩
 rename_i hn;refine⟨fun _=>⟨by omega,fun i hi=>?_⟩,fun _=>rfl⟩;have:=List.find?_eq_none.1 hn i (by simpa using hi);simpa using this
theorem Zfz{l:List ByteArray}{n:Nat}{s:ByteArray}:memN l n s=true↔∃j,j<n∧l.getD j default=s:=by simp[memN,-List.getD_eq_getElem?_getD]
theorem Zqc{l:List ByteArray}:(∀i,i<l.length->¬idxOf l (l.getD i default)<i)↔l.Nodup:=by
 unfold List.Nodup;rw[List.pairwise_iff_getElem];constructor
 ·intro h i j hi hj hij e;refine h j hj ?_;rw[Z5h hj,Zfz];exact⟨i,hij,by rw[Z03 _ _ hj,Z03 _ _ hi];exact e⟩
 intro h i hi hlt;rw[Z5h hi,Zfz]at hlt;obtain⟨j,hj,e⟩:=hlt;rw[Z03 _ _ hi,Z03 _ _ (by omega)]at e;exact h j i (by omega) hi hj e
theorem Z2n(s:Sco)(l:List Rul):(rulesE s l).2=0↔l.length<=40∧(∀r∈l,ruleE s r=0)∧(l.map Rul.name).Nodup:=by
 rw[Zts,<-Zqc];have hn:∀i,i<l.length->(l.map Rul.name).getD i default=(l.getD i default).name:=fun i hi=>by
  rw[Z03 _ _ (by simpa using hi),Z03 _ _ hi,List.getElem_map]
 constructor
 ·rintro ⟨h1,h2⟩
  refine⟨h1,fun r hr=>?_,fun i hi=>?_⟩
  ·obtain⟨i,hi,rfl⟩:=qp hr;have:=h2 i hi;unfold atE at this;rw[Z03 _ _ hi]at this
   split at this
   ·rename_i h;exact absurd this h
   rename_i h;simpa using h
  have hi:i<l.length:=by simpa using hi
  have:=h2 i hi;unfold atE at this;rw[hn i hi]
  split at this
  ·rename_i h;exact absurd this h
  split at this
  ·cases this
  assumption
 rintro ⟨h1,h2,h3⟩
 refine⟨h1,fun i hi=>?_⟩;unfold atE;rw[qJ (by have:=h2 (l.getD i default) (by rw[Z03 _ _ hi];exact qE hi);simpa using this),qJ (by have:=h3 i (by simpa using hi);rwa[hn i hi]at this)]
def litX(b:Bool):Ex:=.mk 1 0 0 ⟨#[]⟩ ⟨1,if b=true then 1 else 0,⟨#[]⟩⟩ noKey []
def sizeU(n:Int):Int:=if n<0 then -n else n
def timesU(a b:Int):Int:=if b≠0∧(1099511627776:Int).tdiv b<a then 1099511627777 else a*b
def signI(n:Int)(neg:Bool):Int:=if 1099511627776<n then(if neg=true then -1099511627776 else 1099511627776)else if neg=true then -n else n
def mulI(a b:Int):Int:=signI (timesU (sizeU a) (sizeU b)) (!(decide (a<0) == decide (b<0)))
def binN(k a b:Int):Int:=if k=11 then satI (a+b)else if k=12 then satI (a-b)else mulI a b
mutual
/-- all nodes are right -/
def okN:Ex->Prop
 | .mk k n m s v q ks=>nodeE (.mk k n m s v q ks)=0∧okNL ks
def okNL:List Ex->Prop
 | []=>True
 |e::es=>okN e∧okNL es
end
theorem Z0h(e:Ex):okN e↔nodeE e=0∧okNL e.kids:=by cases e;rw[okN];rfl
theorem Z1h:∀(l:List Ex),okNL l↔∀e∈l,okN e
 | []=>by rw[okNL];simp
 |e::l=>by rw[okNL,Z1h l];simp
mutual
def depE:Ex->Int
 | .mk _ _ _ _ _ _ ks=>1+depL ks
def depL:List Ex->Int
 | []=>0
 |e::es=>if depE e<depL es then depL es else depE e
end
theorem Z47(e:Ex):depE e=1+depL e.kids:=by cases e;rw[depE];rfl
theorem Z6p:∀l:List Ex,0<=depL l
 | []=>by rw[depL];exact Int.le_refl 0
 |e::l=>by
  have:=Z6p l;have h2:1<=depE e∨depE e<depL l∨True:=.inr (.inr trivial);rw[depL];split
  ·exact this
  omega
theorem Zdr(e:Ex):1<=depE e:=by rw[Z47];have:=Z6p e.kids;omega
mutual
theorem Zdi:∀(e:Ex) (l c:Int),c<=200->l<=25->((chkE e l c).2=0↔okN e∧l-1+depE e<=24∧c+sizeE e<=200)∧((chkE e l c).2=0->(chkE e l c).1=c+sizeE e)
 | .mk a n m s v q ks,l,c,hc,hl=>by
  have hd:=Z6p ks;rw[chkE,okN,depE,sizeE]
  by_cases h1:24<l
  ·rw[qK h1];exact⟨⟨fun h=>(by cases h),fun h=>(by have:=h.2.1;omega)⟩,fun h=>(by cases h)⟩
  rw[qJ h1]
  by_cases h2:200<c+1
  ·rw[qK h2];exact⟨⟨fun h=>(by cases h),fun h=>(by have:=h.2.2;omega)⟩,fun h=>(by cases h)⟩
  rw[qJ h2]
  by_cases h3:nodeE (.mk a n m s v q ks)≠0
  ·rw[qK h3];exact⟨⟨fun h=>absurd h h3,fun h=>absurd h.1.1 h3⟩,fun h=>absurd h h3⟩
  rw[qJ h3];obtain⟨i1,i2⟩:=Zdj ks (l+1) (c+1) (by omega) (by omega);refine⟨⟨fun h=>?_,fun h=>?_⟩,fun h=>?_⟩
  ·obtain⟨j1,j2,j3⟩:=i1.1 h;exact⟨⟨by simpa using h3,j1⟩,by omega,by omega⟩
  ·exact i1.2 ⟨h.1.2,by have:=h.2.1;omega,by have:=h.2.2;omega⟩
  rw[i2 h];omega
theorem Zdj:∀(ks:List Ex) (l c:Int),c<=200->l<=25->((chkL ks l c).2=0↔okNL ks∧l-1+depL ks<=24∧c+sizeL ks<=200)∧((chkL ks l c).2=0->(chkL ks l c).1=c+sizeL ks)
 | [],l,c,hc,hl=>by
  rw[chkL,okNL,depL,sizeL];exact⟨⟨fun _=>⟨trivial,by omega,by omega⟩,fun _=>rfl⟩,fun _=>by simp⟩
 |e::es,l,c,hc,hl=>by
  obtain⟨i1,i2⟩:=Zdi e l c hc hl;rw[chkL,okNL,depL,sizeL]
  by_cases h:(chkE e l c).2≠0
  ·rw[qK h];refine⟨⟨fun h2=>absurd h2 h,fun h2=>absurd (i1.2 ⟨h2.1.1,?_,by have:=h2.2.2;omega⟩) h⟩,fun h2=>absurd h2 h⟩;have:=h2.2.1
   split at this<;>omega
  have h0:(chkE e l c).2=0:=by simpa using h
  rw[qJ h];obtain⟨g1,g2,g3⟩:=i1.1 h0;have hcnt:=i2 h0;obtain⟨k1,k2⟩:=Zdj es l (chkE e l c).1 (by omega) hl;refine⟨⟨fun h2=>?_,fun h2=>?_⟩,fun h2=>?_⟩
  ·obtain⟨j1,j2,j3⟩:=k1.1 h2;refine⟨⟨g1,j1⟩,?_,by omega⟩;split<;>omega
  ·refine k1.2 ⟨h2.1.2,?_,by have:=h2.2.2;omega⟩;have:=h2.2.1
   split at this<;>omega
  rw[k2 h2,hcnt];omega
end
theorem Z4a(e:Ex):exE e=0↔okN e∧depE e<=24∧(sizeE e:Int)<=200:=by
 have:=(Zdi e 1 0 (by omega) (by omega)).1;unfold exE;rw[this];constructor
 ·rintro ⟨a,b,c⟩;exact⟨a,by omega,by omega⟩
 rintro ⟨a,b,c⟩;exact⟨a,by omega,by omega⟩
theorem Zrc(b:Bool):nodeE (litX b)=0:=by cases b<;>rfl
theorem Zrd(b:Bool):okN (litX b):=(Z0h _).2 ⟨Zrc b,by rw[show(litX b).kids = []from rfl,okNL];trivial⟩
theorem Zra(b:Bool):depE (litX b)=1:=by rw[Z47,show(litX b).kids = []from rfl,depL];rfl
theorem Zre(b:Bool):sizeE (litX b)=1:=by rw[Z26,show(litX b).kids = []from rfl,sizeL]
theorem Zrb(s:Sco)(b:Bool):kindE s (litX b)=(1,0):=by rw[Z3j rfl];rfl
theorem Zhn(n:Int):inRange (satI n)=true:=by
 unfold satI inRange;simp only[qc,Q0];omega
theorem Zrr(a b:Int):inRange (mulI a b)=true:=by
 have hn:0<=timesU (sizeU a) (sizeU b):=by
  have h1:0<=sizeU a:=by unfold sizeU;split<;>omega
  have h2:0<=sizeU b:=by unfold sizeU;split<;>omega
  unfold timesU;split
  ·omega
  exact Int.mul_nonneg h1 h2
 unfold mulI signI inRange;(repeat' split)<;>simp<;>omega
theorem Zd9(k a b:Int):inRange (binN k a b)=true:=by
 unfold binN;split
 ·exact Zhn _
 split
 ·exact Zhn _
 exact Zrr a b
structure Keeps (s:Sco) (e x:Ex):Prop where
 ok:okN x
 dep:depE x<=depE e
 size:sizeE x<=sizeE e
 kind:(kindE s e).2=0->kindE s x=kindE s e
theorem Keeps.refl{s:Sco}{e:Ex}(h:okN e):Keeps s e e:=⟨h,Int.le_refl _,qL _,fun _=>rfl⟩
theorem Keeps.lit{s:Sco}{e:Ex}{b:Bool}(h:(kindE s e).2=0->kindE s e=(1,0)):Keeps s e (litX b):=
 ⟨Zrd b,by rw[Zra];exact Zdr e,by rw[Zre,Z26];omega,fun hk=>by rw[Zrb,h hk]⟩
theorem Zab{e:Ex}(h:nodeE e=0):kidsB e.kind e.kids.length=true:=(Zgc h).2
theorem Z1f{s:Sco}{r:Rul}(h:ruleE s r=0):rulE r=0∧(∀i,i<r.on.length->fireE s (r.on.getD i default)=0)∧wantK s r.cond 1=0∧∀i,i<r.steps.length->doE s (r.steps.getD i default)=0:=by
 unfold ruleE at h
 split at h
 ·rename_i h1;exact absurd h h1
 rename_i h1
 split at h
 ·rename_i h2;exact absurd h h2
 rename_i h2
 split at h
 ·rename_i h3;exact absurd h h3
 rename_i h3;exact⟨by simpa using h1,Z1d (by simpa using h2),by simpa using h3,Z1d h⟩
theorem Zat{r:Rul}(h:rulE r=0):∀i,i<r.steps.length->stpE (r.steps.getD i default)=0:=by
 unfold rulE at h
 split at h
 ·cases h
 split at h
 ·cases h
 split at h
 ·cases h
 split at h
 ·rename_i h1;exact absurd h h1
 split at h
 ·rename_i h1;exact absurd h h1
 exact Z1d h
theorem clu_ok{H:Hom}(h:homE H=0){c:Clu}(hc:c∈H.clusters):checkE c=0:=by
 unfold homE at h
 split at h
 ·rename_i h1;exact absurd h h1
 rename_i h1;have h1:allE H.clusters=0:=by simpa using h1
 unfold allE at h1
 split at h1
 ·cases h1
 obtain⟨i,hi,rfl⟩:=qp hc;have:=Z1d h1 i hi;unfold cluE at this;rw[Z03 _ _ hi]at this
 split at this
 ·rename_i h2;exact absurd this h2
 rename_i h2;simpa using h2
variable [Globals]
structure Spn where
 fr:Int
 to:Int
 deriving Inhabited,DecidableEq
structure Mem where
 name:ByteArray
 role:Int
 spans:List Spn
 rooms:List ByteArray
 home:Bool
 deriving Inhabited,DecidableEq
structure Vw where
 items:List Item
 mode:ByteArray
 minute:Int
 members:List Mem
 deriving Inhabited
def cSpn(s:Spn):List PV:=[vint s.fr,vint s.to]
def cMem(m:Mem):List PV:=[vstr m.name,vint m.role,roL 2 cSpn m.spans,roL 1 cstr m.rooms,vbool m.home]
def cVw(v:Vw):List PV:=[roL 7 cItem v.items,vstr v.mode,vint v.minute,roL 5 cMem v.members]
def smallV2(v:Vw):Prop:=smallL v.items∧smallL v.members
def truV(b:Bool):Val:=⟨1,if b=true then 1 else 0,⟨#[]⟩⟩
theorem Z2s(b:Bool):valE (truV b)=0:=by cases b<;>rfl
def itV(v:Val):Val:=if valE v≠0 then noVal else v
def atV(l:List Item)(k:Key):Val:=match findI l k with|some x=>itV x.value|none=>noVal
def within(t a b:Int):Bool:=if a<b then decide (a<=t)&&decide (t<b)else decide (a=b) ||(decide (a<=t)||decide (t<b))
def isHome(m:Mem)(role:Int):Bool:=m.home&&(decide (role=0)||decide (m.role=role))
def homeB(l:List Mem)(role:Int):Bool:=l.any fun m=>isHome m role
def ofDay(m:Int):Int:=(clampI m 0 1073741824).tmod 1440
def weekday(m:Int):Int:=((clampI m 0 1073741824).tdiv 1440+5).tmod 7
def dayB(n w:Int):Bool:=decide ((n.fdiv (2 ^ min w.toNat 64)).tmod 2=1)
def chainV(l:List Val)(d:Bool):Val:=if(l.any fun x=>decide (x=truV d))=true then truV d else if(l.all fun x=>decide (x.kind=1))=true then truV (!d)else noVal
def intV(k:Int)(a b:Val):Val:=if a.kind≠2∨b.kind≠2 then noVal else if k=10 then truV (decide (a.n<b.n))else⟨2,binN k a.n b.n,⟨#[]⟩⟩
def nodV(v:Vw)(k n m:Int)(nm:ByteArray)(x:Val)(q:Key)(l:List Val):Val:=
 if k=1 then x else if k=2 then atV v.items q else if k=3 then truV (decide (v.mode=nm))
 else if k=4∨k=5 then(if v.minute<0 then noVal else if k=4 then truV (within (ofDay v.minute) n m)else truV (dayB n (weekday v.minute)))
 else if k=15 then truV (homeB v.members n)
 else if k=6 then(if(l.getD 0 default).kind≠1 then noVal else truV (decide ((l.getD 0 default).n=0)))
 else if k=7 then chainV l false else if k=8 then chainV l true
 else if k=9 then(if(l.getD 0 default).kind=0∨(l.getD 1 default).kind=0 then noVal else truV (decide (l.getD 0 default=l.getD 1 default)))
 else if k=14 then(if(l.getD 0 default).kind≠1 then noVal else l.getD (2-(l.getD 0 default).n).toNat default)
 else intV k (l.getD 0 default) (l.getD 1 default)
mutual
/-- homehubref32.node -/
def evR(v:Vw):Ex->Val
 | .mk k n m nm x q ks=>nodV v k n m nm x q (evL v ks)
def evL(v:Vw):List Ex->List Val
 | []=>[]
 |e::es=>evR v e::evL v es
end
theorem evR_eq(v:Vw)(e:Ex):evR v e=nodV v e.kind e.n e.m e.name e.value e.key (evL v e.kids):=by cases e;rw[evR];rfl
theorem Z3c(v:Vw):∀l:List Ex,(evL v l).length=l.length
 | []=>by rw[evL];rfl
 |e::l=>by rw[evL,qy,qy,Z3c v l]
theorem Z1y(v:Vw):∀(l:List Ex) (i:Nat),i<l.length->(evL v l).getD i default=evR v (l.getD i default)
 |e::l,0,_=>by rw[evL];rfl
 |e::l,i+1,h=>by rw[evL,List.getD_cons_succ,List.getD_cons_succ];exact Z1y v l i (by simpa using h)
theorem Z67{v:Val}(h:valE v=0)(hk:v.kind=1):v=truV true∨v=truV false:=by
 obtain⟨k,n,s⟩:=v;simp only at hk;subst hk;unfold valE at h;dsimp only at h;rw[if_neg (by omega)]at h
 by_cases h1:n=0∨n=1
 ·have h2:s=⟨#[]⟩:=by
   by_cases h3:s=⟨#[]⟩
   ·exact h3
   exfalso
   split at h
   ·cases h
   split at h
   ·cases h
   rw[qK ⟨h3,by omega⟩]at h;cases h
  subst h2;rcases h1 with rfl|rfl
  ·exact .inr rfl
  exact .inl rfl
 exfalso;rw[qK (by right;left;exact⟨rfl,fun e=>h1 (.inl e),fun e=>h1 (.inr e)⟩)]at h;cases h
theorem Zx3{v:Val}(h:valE v=0)(hk:v.kind=2):-1099511627776<=v.n∧v.n<=1099511627776:=by
 unfold valE at h
 by_cases h1:inRange v.n=true
 ·simpa[inRange]using h1
 exfalso;rw[qJ (by omega),qK (by right;right;left;exact⟨hk,by simpa using h1⟩)]at h;cases h
theorem Zx1{n:Int}(h:inRange n=true):valE ⟨2,n,⟨#[]⟩⟩=0:=by
 simp only[valE,h];rfl
theorem Zqq(v:Val):valE (itV v)=0:=by
 unfold itV;split
 ·rfl
 rename_i h;simpa using h
theorem Zdh(l:List Val)(d:Bool):valE (chainV l d)=0:=by
 unfold chainV;split
 ·exact Z2s _
 split
 ·exact Z2s _
 rfl
theorem Zgb{e:Ex}(h:nodeE e=0)(hk:e.kind=1):valE e.value=0∧e.value.kind≠0:=by
 unfold nodeE at h;rw[qJ (by omega)]at h
 split at h
 ·cases h
 split at h
 ·cases h
 rw[qJ (by omega),qJ (by omega)]at h
 try rw[qK hk]at h
 split at h
 ·rename_i h1;exact absurd h h1
 rename_i h1
 split at h
 ·cases h
 rename_i h2;exact⟨by simpa using h1,h2⟩
theorem Zgh{e:Ex}(h:okN e):kidsB e.kind e.kids.length=true:=Zab ((Z0h e).1 h).1
theorem Zpg(v:Vw):∀(n:Nat) (e:Ex),SizeOf.sizeOf e<=n->okN e->valE (evR v e)=0:=by
 intro n
 induction n with
 |zero=>intro e hn;cases e;simp only[Ex.mk.sizeOf_spec]at hn;omega
 |succ n ih=>
  intro e hn he;have hk:∀i,i<e.kids.length->valE ((evL v e.kids).getD i default)=0:=fun i hi=>by
   rw[Z1y v e.kids i hi];exact ih _ (by have:=Ex.kid_lt (Ex.kid_at hi);omega) ((Z1h _).1 ((Z0h e).1 he).2 _ (Ex.kid_at hi))
  have hb:=Zgh he;rw[evR_eq];unfold nodV;clear ih;have two:∀(c:Prop) [Decidable c] (a b:Val),(c->valE a=0)->(¬c->valE b=0)->valE (if c then a else b)=0:=fun c _ a b h1 h2=>by
   by_cases h:c
   ·rw[qK h];exact h1 h
   rw[qJ h];exact h2 h
  refine two _ _ _ (fun h=>(Zgb ((Z0h e).1 he).1 h).1) fun _=>?_
  refine two _ _ _ (fun _=>?_) fun _=>?_
  ·unfold atV;cases findI v.items e.key with
   |none=>rfl
   |some x=>exact Zqq _
  refine two _ _ _ (fun _=>Z2s _) fun _=>?_
  refine two _ _ _ (fun _=>two _ _ _ (fun _=>rfl) fun _=>two _ _ _ (fun _=>Z2s _) fun _=>Z2s _) fun _=>?_
  refine two _ _ _ (fun _=>Z2s _) fun _=>?_
  refine two _ _ _ (fun _=>two _ _ _ (fun _=>rfl) fun _=>Z2s _) fun _=>?_
  refine two _ _ _ (fun _=>Zdh _ _) fun _=>?_
  refine two _ _ _ (fun _=>Zdh _ _) fun _=>?_
  refine two _ _ _ (fun _=>two _ _ _ (fun _=>rfl) fun _=>Z2s _) fun _=>?_
  refine two _ _ _ (fun h14=>two _ _ _ (fun _=>rfl) fun h=>?_) fun _=>?_
  ·have h3:e.kids.length=3:=by
    rw[h14]at hb;unfold kidsB at hb;rw[qJ (by omega),qJ (by omega),qJ (by omega),qK rfl]at hb;have:=qC hb;omega
   have h0:=Z67 (hk 0 (by omega)) (Classical.not_not.1 h);rcases h0 with h0|h0
   ·rw[h0];exact hk 1 (by omega)
   rw[h0];exact hk 2 (by omega)
  unfold intV;exact two _ _ _ (fun _=>rfl) fun _=>two _ _ _ (fun _=>Z2s _) fun _=>Zx1 (Zd9 _ _ _)
theorem evR_ok(v:Vw){e:Ex}(h:okN e):valE (evR v e)=0:=Zpg v _ e (qL _) h
def fndV(x:Val):Val×Bool:=if x.kind=0 then(noVal,false)else(x,true)
def evlE(v:Vw)(e:Ex):Val×Bool:=if exE e≠0 then(noVal,false)else fndV (evR v e)
def truE(v:Vw)(e:Ex):Bool:=(evlE v e).2&&decide ((evlE v e).1=truV true)
end Go.Abs
namespace Go.Abs
section
variable {α:Type} {lt:α->α->Bool}
structure SWO (lt:α->α->Bool):Prop where
 asymm:∀a b,lt a b=true->lt b a=false
 trans:∀a b c,lt a b=false->lt b c=false->lt a c=false
theorem SWO.irrefl(h:SWO lt)(a:α):lt a a=false:=by
 cases e:lt a a with
 |false=>rfl
 |true=>rw[h.asymm a a e]at e;cases e
theorem SWO.lt_trans(h:SWO lt){a b c:α}(h1:lt a b=true)(h2:lt b c=true):lt a c=true:=by
 cases e:lt a c with
 |true=>rfl
 |false=>
  have:=h.trans a c b e (h.asymm b c h2);rw[this]at h1;cases h1
theorem SWO.lt_le(h:SWO lt){a b c:α}(h1:lt a b=true)(h2:lt c b=false):lt a c=true:=by
 cases e:lt a c with
 |true=>rfl
 |false=>
  have:=h.trans a c b e h2;rw[this]at h1;cases h1
theorem SWO.le_lt(h:SWO lt){a b c:α}(h1:lt b a=false)(h2:lt b c=true):lt a c=true:=by
 cases e:lt a c with
 |true=>rfl
 |false=>
  have:=h.trans b a c h1 e;rw[this]at h2;cases h2
def eqv(lt:α->α->Bool)(a b:α):Bool:=!lt a b && !lt b a
theorem eqv_iff{a b:α}:eqv lt a b=true↔lt a b=false∧lt b a=false:=by
 unfold eqv;rw[qc,Q2,Q2]
def SrtO(lt:α->α->Bool)(l:List α):Prop:=l.Pairwise fun a b=>lt b a=false
def Stb(lt:α->α->Bool)(l r:List α):Prop:=SrtO lt r∧∀x,r.filter (eqv lt x)=l.filter (eqv lt x)
theorem Zba(hw:SWO lt):∀ {r s:List α},SrtO lt r->SrtO lt s->(∀x,r.filter (eqv lt x)=s.filter (eqv lt x))->r=s
 | [],s,_,_,h=>by
  cases s with
  |nil=>rfl
  |cons b s=>
   have:=h b;rw[List.filter_nil,List.filter_cons,qK (eqv_iff.2 ⟨hw.irrefl b,hw.irrefl b⟩)]at this;cases this
 |a::r,[],_,_,h=>by
  have:=h a;rw[List.filter_nil,List.filter_cons,qK (eqv_iff.2 ⟨hw.irrefl a,hw.irrefl a⟩)]at this;cases this
 |a::r,b::s,hr,hs,h=>by
  have ra:∀x:α,eqv lt x x=true:=fun x=>eqv_iff.2 ⟨hw.irrefl x,hw.irrefl x⟩
  have hbr:b∈a::r:=by
   have h1:b∈(b::s).filter (eqv lt b):=List.mem_filter.2 ⟨by simp,ra b⟩;rw[<-h b]at h1;exact(List.mem_filter.1 h1).1
  have has:a∈b::s:=by
   have h1:a∈(a::r).filter (eqv lt a):=List.mem_filter.2 ⟨by simp,ra a⟩;rw[h a]at h1;exact(List.mem_filter.1 h1).1
  have l1:lt b a=false:=by
   rcases qk.1 hbr with e|e
   ·rw[e];exact hw.irrefl a
   exact(qQ.1 hr).1 b e
  have l2:lt a b=false:=by
   rcases qk.1 has with e|e
   ·rw[<-e];exact hw.irrefl a
   exact(qQ.1 hs).1 a e
  have hab:a=b:=by
   have:=h a;rw[List.filter_cons,qK (ra a),List.filter_cons,qK (eqv_iff.2 ⟨l2,l1⟩)]at this;exact(List.cons.inj this).1
  subst hab;congr 1;refine Zba hw (qQ.1 hr).2 (qQ.1 hs).2 fun x=>?_
  have:=h x;rw[List.filter_cons,List.filter_cons]at this
  by_cases e:eqv lt x a=true
  ·rw[qK e,qK e]at this;exact(List.cons.inj this).2
  rw[qJ e,qJ e]at this;exact this
theorem Stb.uniq(hw:SWO lt){l r s:List α}(h:Stb lt l r)(k:Stb lt l s):r=s:=Zba hw h.1 k.1 fun x=>(h.2 x).trans (k.2 x).symm
theorem Stb.mem(hw:SWO lt){l r:List α}(h:Stb lt l r)(x:α):x∈r↔x∈l:=by
 have ra:eqv lt x x=true:=eqv_iff.2 ⟨hw.irrefl x,hw.irrefl x⟩;have h1:x∈r.filter (eqv lt x)↔x∈l.filter (eqv lt x):=by rw[h.2 x]
 rw[List.mem_filter,List.mem_filter]at h1;exact⟨fun h2=>(h1.1 ⟨h2,ra⟩).1,fun h2=>(h1.2 ⟨h2,ra⟩).1⟩
def insR(lt:α->α->Bool):List α->α->List α
 | [],x=>[x]
 |a::l,x=>if((a::l).all fun y=>lt x y)=true then x::a::l else a::insR lt l x
theorem Z75:∀(l:List α) (x:α),∃p q,l=p++q∧insR lt l x=p++x::q∧(∀y∈q,lt x y=true)∧∀a p',p=p' ++ [a]->lt x a=false
 | [],x=>⟨[],[],rfl,rfl,fun y h=>(by cases h),fun a p' h=>by cases p'<;>cases h⟩
 |b::l,x=>by
  by_cases h:((b::l).all fun y=>lt x y)=true
  ·exact⟨[],b::l,rfl,by rw[insR,qK h];rfl,fun y hy=>qz.1 h y hy,fun a p' h=>by cases p'<;>cases h⟩
  ·obtain⟨p,q,h1,h2,h3,h4⟩:=Z75 l x;refine⟨b::p,q,by rw[h1];rfl,by rw[insR,qJ h,h2];rfl,h3,fun a p' hp=>?_⟩;cases p' with
   |cons c p'=>exact h4 a p' (List.cons.inj hp).2
   |nil=>
    have e1:b=a:=(List.cons.inj hp).1;have e2:p = []:=(List.cons.inj hp).2;subst e1;rw[e2,List.nil_append]at h1;cases hb:lt x b with
    |false=>rfl
    |true=>exact absurd (qz.2 fun y hy=>by
      rcases qk.1 hy with e|e
      ·rw[e];exact hb
      ·exact h3 y (h1▸e)) h
theorem Zql(hw:SWO lt){l r:List α}(h:Stb lt l r)(x:α):Stb lt (l ++ [x]) (insR lt r x):=by
 obtain⟨p,q,h1,h2,h3,h4⟩:=Z75 (lt:=lt) r x;have hs:=h.1;unfold SrtO at hs;rw[h1,List.pairwise_append]at hs;obtain⟨hp,hq,hpq⟩:=hs;have h5:∀y∈p,lt x y=false:=by
  rcases List.eq_nil_or_concat p with e|⟨p',a,e⟩
  ·rw[e];intro y hy;cases hy
  rw[List.concat_eq_append]at e;have ha:=h4 a p' e;intro y hy;rw[e]at hy hp;rcases qo.1 hy with h6|h6
  ·have h7:lt a y=false:=(List.pairwise_append.1 hp).2.2 y h6 a (by simp);exact hw.trans x a y ha h7
  rw[List.mem_singleton.1 h6];exact ha
 refine⟨?_,fun z=>?_⟩
 ·unfold SrtO;rw[h2,List.pairwise_append];refine⟨hp,qQ.2 ⟨fun y hy=>hw.asymm x y (h3 y hy),hq⟩,fun a ha b hb=>?_⟩;rcases qk.1 hb with e|e
  ·rw[e];exact h5 a ha
  exact hpq a ha b e
 rw[h2,List.filter_append,List.filter_append,<-h.2 z,h1,List.filter_append,List.filter_cons]
 by_cases e:eqv lt z x=true
 ·have:q.filter (eqv lt z) = []:=List.filter_eq_nil_iff.2 fun y hy h6=>by
   have h7:=eqv_iff.1 e;have h8:=eqv_iff.1 h6;have h9:=hw.trans x z y h7.2 h8.1;rw[h3 y hy]at h9;cases h9
  rw[qK e,this,List.append_nil,List.filter_cons,qK e,List.filter_nil]
 rw[qJ e,List.filter_cons,qJ e,List.filter_nil,List.append_nil]
def isortR(lt:α->α->Bool)(l:List α):List α:=l.foldl (insR lt) []
theorem Z2y(l:List α)(x:α):isortR lt (l ++ [x])=insR lt (isortR lt l) x:=by unfold isortR;rw[List.foldl_append];rfl
theorem Z1e(hw:SWO lt)(l:List α):Stb lt l (isortR lt l):=by
 have key:∀n,∀l:List α,l.length=n->Stb lt l (isortR lt l):=by
  intro n
  induction n with
  |zero=>intro l hl;rw[List.eq_nil_of_length_eq_zero hl];exact⟨List.Pairwise.nil,fun _=>rfl⟩
  |succ n ih=>
   intro l hl;rcases List.eq_nil_or_concat l with e|⟨l',a,e⟩
   ·rw[e]at hl;cases hl
   rw[List.concat_eq_append]at e;subst e;rw[Z2y];exact Zql hw (ih l' (by simpa using hl)) a
 exact key _ l rfl
theorem Stb.eq(hw:SWO lt){l r:List α}(h:Stb lt l r):r=isortR lt l:=h.uniq hw (Z1e hw l)
theorem Zfe(hw:SWO lt){l:List α}(h:SrtO lt l):isortR lt l=l:=(Stb.eq hw (l:=l) (r:=l) ⟨h,fun _=>rfl⟩).symm
theorem Zqk(l:List α)(x:α):(insR lt l x).length=l.length+1:=by
 obtain⟨p,q,h1,h2,_⟩:=Z75 (lt:=lt) l x;rw[h2,h1,ql,ql,qy];omega
theorem Z4l(l:List α):(isortR lt l).length=l.length:=by
 have key:∀(l acc:List α),(l.foldl (insR lt) acc).length=acc.length+l.length:=by
  intro l
  induction l with
  |nil=>intro acc;simp
  |cons x l ih=>intro acc;rw[List.foldl_cons,ih,Zqk,qy];omega
 have:=key l [];simpa[isortR]using this
theorem Zuq(hw:SWO lt){L1 L2 R1 R2 r1 r2:List α}(h1:Stb lt (L1++R1) r1)(h2:Stb lt (L2++R2) r2)(hle:∀a∈L1++R1,∀b∈L2++R2,lt b a=false)(hlt:∀x∈L2,∀y∈R1,lt y x=true) :
  Stb lt ((L1++L2)++(R1++R2)) (r1++r2):=by
 refine⟨?_,fun z=>?_⟩
 ·unfold SrtO;rw[List.pairwise_append];exact⟨h1.1,h2.1,fun a ha b hb=>hle a ((h1.mem hw a).1 ha) b ((h2.mem hw b).1 hb)⟩
 rw[List.filter_append,h1.2 z,h2.2 z];simp only[List.filter_append,List.append_assoc];congr 1
 by_cases e:L2.filter (eqv lt z) = []
 ·rw[e,List.nil_append,List.nil_append]
 have:R1.filter (eqv lt z) = []:=List.filter_eq_nil_iff.2 fun y hy h6=>by
  obtain⟨x,hx⟩:=List.exists_mem_of_ne_nil _ e;obtain⟨hx1,hx2⟩:=List.mem_filter.1 hx;have h7:=eqv_iff.1 h6;have h8:=eqv_iff.1 hx2;have h9:=hw.trans y z x h7.2 h8.1;rw[hlt x hx1 y hy]at h9;cases h9
 rw[this,List.nil_append];rfl
end
def AscS(l:List ByteArray):Prop:=l.Pairwise fun a b=>sLt a b=true
theorem Z43:∀ {l k:List ByteArray},AscS l->AscS k->(∀x,x∈l↔x∈k)->l=k
 | [],[],_,_,_=>rfl
 | [],b::k,_,_,h=>by have:=(h b).2 (by simp);simp at this
 |a::l,[],_,_,h=>by have:=(h a).1 (by simp);simp at this
 |a::l,b::k,hl,hk,h=>by
  obtain⟨hl1,hl2⟩:=qQ.1 hl;obtain⟨hk1,hk2⟩:=qQ.1 hk;have e:a=b:=by
   have h1:=(h a).1 (by simp);have h2:=(h b).2 (by simp);rcases qk.1 h1 with e|h1
   ·exact e
   rcases qk.1 h2 with e|h2
   ·exact e.symm
   have:=Zb1 (hl1 b h2);rw[hk1 a h1]at this;cases this
  subst e;congr 1;refine Z43 hl2 hk2 fun x=>⟨fun hx=>?_,fun hx=>?_⟩
  ·rcases qk.1 ((h x).1 (by simp[hx]))with e|h1
   ·subst e;have:=hl1 x hx;rw[Z1r]at this;cases this
   exact h1
  rcases qk.1 ((h x).2 (by simp[hx]))with e|h1
  ·subst e;have:=hk1 x hx;rw[Z1r]at this;cases this
  exact h1
def putS:List ByteArray->ByteArray->List ByteArray
 | [],k=>[k]
 |x::r,k=>if sLt x k=true then x::putS r k else k ::(x::r).filter fun y=>decide (y≠k)
theorem mem_putS{l:List ByteArray}{k x:ByteArray}:x∈putS l k↔x=k∨x∈l:=by
 induction l with
 |nil=>simp[putS]
 |cons y r ih=>
  unfold putS;split
  ·simp only[qk,ih];constructor
   ·rintro (h|h|h)
    ·exact .inr (.inl h)
    ·exact .inl h
    exact .inr (.inr h)
   rintro (h|h|h)
   ·exact .inr (.inl h)
   ·exact .inl h
   exact .inr (.inr h)
  simp only[qk,List.mem_filter,Q0];constructor
  ·rintro (h|⟨h,_⟩)
   ·exact .inl h
   exact .inr h
  rintro (h|h)
  ·exact .inl h
  by_cases e:x=k
  ·exact .inl e
  exact .inr ⟨h,e⟩
theorem Z93{l:List ByteArray}{k:ByteArray}(h:AscS l):AscS (putS l k):=by
 induction l with
 |nil=>simp[putS,AscS]
 |cons y r ih=>
  obtain⟨h1,h2⟩:=qQ.1 h;unfold putS;split
  ·rename_i hy;refine qQ.2 ⟨fun x hx=>?_,ih h2⟩;rcases mem_putS.1 hx with rfl|hx
   ·exact hy
   exact h1 x hx
  rename_i hy;refine qQ.2 ⟨fun x hx=>?_,h.sublist (List.filter_sublist)⟩;rw[List.mem_filter,Q0]at hx;obtain⟨hx,hne⟩:=hx;rcases qk.1 hx with rfl|hx
  ·exact(Z24 hne).resolve_left hy
  have h3:=h1 x hx;rcases Z24 hne with h4|h4
  ·exact absurd (Z30 h3 h4) hy
  exact h4
def sortS(l:List ByteArray):List ByteArray:=l.foldl putS []
theorem Zpz{l acc:List ByteArray}{x:ByteArray}:x∈l.foldl putS acc↔x∈acc∨x∈l:=by
 induction l generalizing acc with
 |nil=>simp
 |cons y r ih=>
  simp only[List.foldl_cons,ih,mem_putS,qk];constructor
  ·rintro ((h|h)|h)
   ·exact .inr (.inl h)
   ·exact .inl h
   exact .inr (.inr h)
  rintro (h|h|h)
  ·exact .inl (.inr h)
  ·exact .inl (.inl h)
  exact .inr h
theorem Zpx{l acc:List ByteArray}(h:AscS acc):AscS (l.foldl putS acc):=by
 induction l generalizing acc with
 |nil=>exact h
 |cons y r ih=>exact ih (Z93 h)
theorem mem_sortS{l:List ByteArray}{x:ByteArray}:x∈sortS l↔x∈l:=by unfold sortS;rw[Zpz];simp
theorem Z39(l:List ByteArray):AscS (sortS l):=Zpx List.Pairwise.nil
theorem Zt3(l:List ByteArray)(k:ByteArray):(putS l k).length<=l.length+1:=by
 induction l with
 |nil=>simp[putS]
 |cons y r ih=>
  unfold putS;split
  ·simp only[qy];omega
  simp only[qy];have:=List.length_filter_le (fun z=>decide (z≠k)) (y::r);simp only[qy]at this;omega
theorem Zpy{l acc:List ByteArray}:(l.foldl putS acc).length<=acc.length+l.length:=by
 induction l generalizing acc with
 |nil=>simp
 |cons y r ih=>
  have h1:=ih (acc:=putS acc y);have h2:=Zt3 acc y;simp only[List.foldl_cons,qy];omega
theorem Z32(l:List ByteArray):(sortS l).length<=l.length:=by
 have:=Zpy (l:=l) (acc:=[]);simpa[sortS]using this
def compToS(l:List ByteArray):Nat->List ByteArray
 |0=>[]
 |m+1=>if m=0∨l.getD m default≠l.getD (m-1) default then compToS l m ++ [l.getD m default]else compToS l m
theorem Z6m{l:List ByteArray}:∀ {m:Nat},m<=l.length->(∀j,1<=j->j<m->l.getD j default≠l.getD (j-1) default)->compToS l m=l.take m
 |0,_,_=>by simp[compToS]
 |m+1,hm,h=>by
  have ih:=Z6m (l:=l) (m:=m) (by omega) (fun j h1 h2=>h j h1 (by omega));unfold compToS;rw[qK,ih,Z09 (by omega)]
  by_cases e:m=0
  ·exact .inl e
  exact .inr (h m (by omega) (by omega))
def OrdS(l:List ByteArray):Prop:=∀i j,i<j->j<l.length->sLt (l.getD j default) (l.getD i default)=false
theorem Zdn{s:List ByteArray}(hs:OrdS s):∀m,m<=s.length->AscS (compToS s m)∧∀x,x∈compToS s m↔∃i,i<m∧s.getD i default=x
 |0,_=>⟨List.Pairwise.nil,fun x=>by simp[compToS]⟩
 |m+1,hm=>by
  obtain⟨h1,h2⟩:=Zdn hs m (by omega);unfold compToS;split
  ·rename_i hne;refine⟨List.pairwise_append.2 ⟨h1,by simp,fun a ha b hb=>?_⟩,fun x=>?_⟩
   ·simp only[List.mem_singleton]at hb;subst hb;obtain⟨i,hi,rfl⟩:=(h2 a).1 ha;have hle:=hs i m hi (by omega)
    by_cases e:s.getD i default=s.getD m default
    ·exfalso;have hne:=hne.resolve_left (by omega);have h3:=hs (m-1) m (by omega) (by omega);have h4:sLt (s.getD (m-1) default) (s.getD m default)=false:=by
      by_cases ei:i=m-1
      ·subst ei;rw[e];exact Z1r _
      rw[<-e];exact hs i (m-1) (by omega) (by omega)
     rcases Z24 hne with h5|h5
     ·rw[h5]at h3;cases h3
     rw[h5]at h4;cases h4
    rcases Z24 e with h5|h5
    ·exact h5
    rw[h5]at hle;cases hle
   rw[qo,h2,List.mem_singleton];constructor
   ·rintro (⟨i,hi,e⟩|e)
    ·exact⟨i,by omega,e⟩
    exact⟨m,by omega,e.symm⟩
   rintro ⟨i,hi,e⟩
   by_cases ei:i=m
   ·subst ei;exact .inr e.symm
   exact .inl ⟨i,by omega,e⟩
  rename_i hne;have hne:=not_or.1 hne;have heq:=Classical.not_not.1 hne.2;refine⟨h1,fun x=>?_⟩;rw[h2];constructor
  ·rintro ⟨i,hi,e⟩;exact⟨i,by omega,e⟩
  rintro ⟨i,hi,e⟩
  by_cases ei:i=m
  ·subst ei;exact⟨i-1,by omega,by rw[<-heq];exact e⟩
  exact⟨i,by omega,e⟩
def sortedS(l:List ByteArray):List ByteArray:=l.mergeSort fun x y=>!sLt y x
theorem Zul(l:List ByteArray):OrdS (sortedS l):=by
 have hp:=List.pairwise_mergeSort (le:=fun x y:ByteArray=>!sLt y x) (fun a b c h1 h2=>by
  simp only[Q2]at *;cases h3:sLt c a with
  |false=>rfl
  |true=>
   exfalso
   by_cases e:a=b
   ·subst e;rw[h3]at h2;cases h2
   ·rcases Z24 e with h4|h4
    ·have:=Z30 h3 h4;rw[this]at h2;cases h2
    ·rw[h4]at h1;cases h1) (fun a b=>by
  simp only[Bool.or_eq_true,Q2];cases h:sLt b a with
  |false=>exact .inl rfl
  |true=>exact .inr (Zb1 h)) l
 intro i j hij hj;have hj':j<(l.mergeSort fun x y=>!sLt y x).length:=hj;have:=List.pairwise_iff_getElem.1 hp i j (by omega) hj' hij;simp only[Q2]at this;unfold sortedS;rw[Z03 _ _ hj',Z03 _ _ (show i<(l.mergeSort fun x y=>!sLt y x).length from by omega)];exact this
theorem Z28(l:List ByteArray):(sortedS l).length=l.length:=List.length_mergeSort _
theorem Zdm(l:List ByteArray):compToS (sortedS l) l.length=sortS l:=by
 obtain⟨h1,h2⟩:=Zdn (Zul l) l.length (by rw[Z28];exact qL _);refine Z43 h1 (Z39 l) fun x=>?_
 rw[h2,mem_sortS,<-List.mem_mergeSort (le:=fun x y=>!sLt y x)];show _↔x∈sortedS l
 rw[List.mem_iff_getElem];constructor
 ·rintro ⟨i,hi,e⟩
  exact⟨i,by rw[Z28];exact hi,by simpa[List.getD,show i<(sortedS l).length from by rw[Z28];exact hi]using e⟩
 rintro ⟨i,hi,e⟩
 exact⟨i,by rwa[Z28]at hi,by simp[List.getD,hi,e]⟩
def memS(l:List ByteArray)(x:ByteArray):Bool:=decide (0<=idxOf l x)
def insM(m:List ByteArray)(x:ByteArray)(j:Nat):List ByteArray:=m.take j++x::m.drop j
theorem Z9z{m:List ByteArray}{x:ByteArray}{j:Nat}(hA:AscS m)(hx:x∉m)(hj:j<=m.length)(h1:∀i,j<=i->i<m.length->sLt x (m.getD i default)=true)(h2:j=0∨sLt x (m.getD (j-1) default)=false):insM m x j=putS m x:=by
 refine Z43 ?_ (Z93 hA) fun y=>?_
 ·unfold insM;refine List.pairwise_append.2 ⟨hA.sublist (List.take_sublist _ _),qQ.2 ⟨fun y hy=>?_,hA.sublist (List.drop_sublist _ _)⟩,fun a ha b hb=>?_⟩
  ·obtain⟨i,hi,rfl⟩:=qp hy;have hi':j+i<m.length:=by rw[List.length_drop]at hi;omega
   have:=h1 (j+i) (by omega) hi';rw[Z03 _ _ hi']at this;simpa using this
  obtain⟨i,hi,rfl⟩:=qp ha;rw[qq]at hi;have him:i<m.length:=by omega
  have hax:sLt m[i] x=true:=by
   have h3:=h2.resolve_left (by omega);rw[Z03 _ _ (show j-1<m.length by omega)]at h3;have hne:m[j-1]≠x:=fun e=>hx (e▸qE (show j-1<m.length by omega))
   have h4:=(Z24 hne).resolve_right (by rw[h3];simp)
   by_cases e:i=j-1
   ·subst e;exact h4
   exact Z30 (List.pairwise_iff_getElem.1 hA i (j-1) him (by omega) (by omega)) h4
  rw[List.getElem_take];rcases qk.1 hb with rfl|hb
  ·exact hax
  obtain⟨q,hq,rfl⟩:=qp hb;have hq':j+q<m.length:=by rw[List.length_drop]at hq;omega
  rw[List.getElem_drop];exact List.pairwise_iff_getElem.1 hA i (j+q) him hq' (by omega)
 rw[mem_putS];unfold insM;rw[qo,qk];constructor
 ·rintro (h|h|h)
  ·exact .inr (qn h)
  ·exact .inl h
  exact .inr (List.mem_of_mem_drop h)
 rintro (h|h)
 ·exact .inr (.inl h)
 rw[<-List.take_append_drop j m,qo]at h;rcases h with h|h
 ·exact .inl h
 exact .inr (.inr h)
theorem Zi2(l:List ByteArray)(x:ByteArray):sortS (l ++ [x])=putS (sortS l) x:=by simp[sortS]
open Go.RowKit
variable [Globals]
def opSI(P:Program)(T:Tab)(nt:Nat)(o:Oper)(s:AState)(K:AState->Prop):Prop:=
 match s with
 |⟨tm,ob⟩=>match o with
  |⟨none,op,ty,pos,after,guard⟩=>aopcN P T ⟨none,op,ty,pos,after,guard⟩ 0 (evO tm) (getO ob) fun v u=>iceB op v u fun v u=>nextS nt none ⟨tm,ob⟩ v u K
  |⟨some d,op,ty,pos,after,guard⟩=>aopcN P T ⟨some d,op,ty,pos,after,guard⟩ d (evO tm) (getO ob) fun v u=>iceB op v u fun v u=>nextS nt (some d) ⟨tm,ob⟩ v u K
def arunI(P:Program)(T:Tab)(nt:Nat)(ops:List Oper):List Oper->AState->(AState->Prop)->Prop
 | [],s,K=>K s
 |o::r,s,K=>guardK ops o.guard s fun b s=>match b with
  |true=>opSI P T nt o s fun s=>arunI P T nt ops r s K
  |false=>nextS nt o.dst s skipV [] fun s=>arunI P T nt ops r s K
section
variable {P:Program} {T:Tab} {E:FEnv}
theorem Zs1(hE:E.ok)(hT:T.ok P){o:Oper}{s:AState}{K:AState->Prop}{σ:Sig}{a:Act}{w:World}{Q:Exit->Act->World->Prop}(hR:Rel P E s σ a w)(h:opSI P T E.nt o s K) :
  o.wp P a w (fun a' w'=>∃s' σ',K s'∧Rel P E s' σ' a' w') Q:=by
 obtain⟨tm,ob⟩:=s;have h2:aopcN P T o (idOf o.dst) (evO tm) (getO ob) fun v u=>iceB o.op v u fun v u=>nextS E.nt o.dst ⟨tm,ob⟩ v u K:=by
  obtain⟨d,op,ty,pos,after,guard⟩:=o;cases d<;>exact h
 have hi:=hR.inv hE;have wrap:∀(v:AV) (u:Upd),nextS E.nt o.dst ⟨tm,ob⟩ v u K->K ⟨putT tm o.dst v,u++ob⟩∧∀t,o.dst=some t->t<E.nt:=by
  intro v u hK;refine⟨?_,fun t ht=>?_⟩
  ·cases hd':o.dst with
   |none=>
    rw[hd']at hK;unfold nextS at hK;simp only at hK
    match u,hK with
    | [],hK=>exact hK
    | [x],hK=>exact hK
    |x::y::r,hK=>exact hK
   |some t=>
    rw[hd']at hK;unfold nextS at hK;have hK:=(Z02 hK).2
    match u,hK with
    | [],hK=>exact hK
    | [x],hK=>exact hK
    |x::y::r,hK=>exact hK
  rw[ht]at hK;unfold nextS at hK;exact qi (Z02 hK).1
 obtain⟨v0,u0,hK0,hS0⟩:=Z8w hT h2;obtain⟨v,u,hK,hS⟩:=Zet hK0 hS0;have hnear:∀k,near o (evO tm) (getO ob) k->getO ob k≠none:=by
  rintro k (⟨x,hx,hk⟩|⟨x,hx,l,hl,obj,hob,hk⟩|⟨x,hx,m,hm,obj',hob',l,hl,obj,hob,hk⟩)
  ·exact Z9e hR x k hk
  ·exact hR.wo l obj hob k hk
  exact hR.wo l obj hob k hk
 obtain⟨hK',hd⟩:=wrap v u hK;refine(hS.runs E.St E.M0 σ w a.eval hi (fun x _=>Z49 hE hR x) (fun k _ obj e=>hR.ob k obj e) hnear (fun l _ h1=>hR.nob l h1)).wp (fun v' w' ⟨σ',hp⟩=>?_);refine⟨_,σ',hK',RelF.post (tmf':=getT (putT tm o.dst v)) (obf':=getO (u++ob)) hE hR hp hd (fun l obj e=>(hS.lv l obj e).2) (fun l hl=>(hS.rv l hl).imp (hnear l) id) (fun i obj e l hl=>(hS.ro i obj e l hl).imp (hnear l) id) (fun t=>?_) (fun l=>?_)⟩
 ·cases hd':o.dst with
  |none=>exact .inr ⟨by simp,by simp[putT]⟩
  |some d=>
   simp only[putT,Z0m,qw]
   by_cases e:d=t
   ·exact .inl ⟨e,by rw[qK e]⟩
   exact .inr ⟨fun h=>e (qN h),by rw[qJ e]⟩
 simp only[Z4g];cases e:getO u l with
 |none=>exact .inr ⟨rfl,rfl⟩
 |some x=>exact .inl ⟨x,rfl,rfl⟩
theorem Z90(hE:E.ok)(hT:T.ok P){ops:Array Oper}{K:AState->Prop}{Q:Exit->Act->World->Prop}(hQ:∀s σ a w,K s->Rel P E s σ a w->Q .normal a w) :
  ∀(l:List Oper) (i:Nat) (s:AState) (σ:Sig) (a:Act) (w:World),(∀j,l[j]? = ops[i+j]?)->Rel P E s σ a w->arunI P T E.nt ops.toList l s K->wpOps P ops Q (List.range' i l.length) a w
 | [],i,s,σ,a,w,_,hR,h=>by simpa[wpOps]using hQ s σ a w h hR
 |o::l,i,s,σ,a,w,hl,hR,h=>by
  have ho:ops[i]? = some o:=by simpa using(hl 0).symm
  have hl':∀j,l[j]? = ops[i+1+j]?:=fun j=>by have:=hl (j+1);simpa[Nat.add_assoc,Nat.add_comm 1 j]using this
  simp only[qy,List.range'_succ,wpOps,ho];unfold arunI at h;obtain⟨s',hK,hR'⟩:=Z9u (ops:=ops) hR h;cases hw:Region.wanted o (yielded ops a.tmps)with
  |true=>
   rw[hw]at hK;simp only[if_true];exact .inl (Oper.wp_mono (fun a' w' ⟨s2,σ2,hs2,hR2⟩=>Z90 hE hT hQ l (i+1) s2 σ2 a' w' hl' hR2 hs2) (Zs1 hE hT hR' hK))
  |false=>
   rw[hw]at hK;simp only[Bool.false_eq_true,if_false];obtain⟨tm,ob⟩:=s';have hd:∀t,o.dst=some t->t<E.nt:=by
    intro t ht;simp only[ht]at hK;unfold nextS at hK;exact qi (Z02 hK).1
   have h2:=hR'.skip o.dst hd;refine Z90 hE hT hQ l (i+1) _ σ _ w hl' h2 ?_;cases hd':o.dst with
   |none=>rw[hd']at hK;exact hK
   |some t=>rw[hd']at hK;exact(Z02 hK).2
end
def awpI(P:Program)(T:Tab)(nt:Nat):Code->AState->(AExit->AState->Prop)->Prop
 | .skip,s,Q=>Q .normal s
 | .region _ ops false,s,Q=>arunI P T nt ops.toList ops.toList s (Q .normal)
 | .region _ ops true,s,Q=>drawOk ops.toList=true∧arunD P T nt ops.toList ops.toList s [] (fun s log=>logOk ops.toList log=true∧Q .normal s)
 | .seq x y,s,Q=>awpI P T nt x s (thenK (fun s=>awpI P T nt y s Q) Q)
 | .cond c x y,s,Q=>match s with
  |⟨tm,ob⟩=>match evO tm c with
   | .pv (.val (.bool b))=>(match b with|true=>awpI P T nt x ⟨tm,ob⟩ Q|false=>awpI P T nt y ⟨tm,ob⟩ Q)
   | .pv (.sb b)=>(b=true->awpI P T nt x ⟨tm,ob⟩ Q)∧(b=false->awpI P T nt y ⟨tm,ob⟩ Q)
   |_=>False
 | .block id c,s,Q=>awpI P T nt c s (blockK id Q)
 | .loop c,s,Q=>∃(ι:Type) (J:ι->Prop) (I:ι->AState) (m:ι->Nat) (i0:ι) (r:List (Nat×Nat)),J i0∧entS r s (I i0)∧
   ∀i,J i->awpI P T nt c (I i) (thenK (fun s'=>∃(j:ι) (r:List (Nat×Nat)),J j∧m j<m i∧entS r s' (I j)) Q)
 | .exit id,s,Q=>Q (.exit id) s
 | .ret,s,Q=>Q .ret s
 |_,_,_=>False
section
variable {P:Program} {T:Tab} {E:FEnv}
theorem Z2d(hE:E.ok)(hT:T.ok P)(hm:P.follows .mixedOrders=true):∀(c:Code) (s:AState) (Q:AExit->AState->Prop) (σ:Sig) (a:Act) (w:World),Rel P E s σ a w->awpI P T E.nt c s Q->c.wp P (exitQ P E Q) a w
 | .skip,s,Q,σ,a,w,hR,h=>wp_skip ⟨s,σ,h,hR⟩
 | .region id ops dr,s,Q,σ,a,w,hR,h=>by
  cases dr with
  |false=>
   refine wp_region ?_;have:=Z90 hE hT (Q:=exitQ P E Q) (fun s σ a w hs hR=>⟨s,σ,hs,hR⟩) ops.toList 0 s σ a w (fun j=>by simp) hR h;rw[List.range_eq_range'];simpa using this
  |true=>
   obtain⟨h1,h2⟩:=h;exact wp_region_any hm (Zd0 hE hT h1 (fun s σ a w hs hR=>⟨s,σ,hs,hR⟩) (RelF.drew hR _ (Nat.le_succ _)) h2)
 | .seq x y,s,Q,σ,a,w,hR,h=>by
  refine wp_seq (wp_mono (Z2d hE hT hm x s _ σ a w hR h) (fun e a' w' he=>?_));cases e with
  |normal=>obtain⟨s',σ',hq,hR'⟩:=he;exact Z2d hE hT hm y s' Q σ' a' w' hR' hq
  |exit i=>exact he
  |ret=>exact he
  |goto l=>exact he.elim
  |panic c=>exact he.elim
  |outgrown=>exact he.elim
 | .cond c x y,s,Q,σ,a,w,hR,h=>by
  obtain⟨tm,ob⟩:=s;have hc:=Z49 hE hR c;unfold awpI at h;simp only at h
  split at h
  ·rename_i b hb;rw[show evO tm c = .pv (.val (.bool b))from hb]at hc;have hv:=pr_val (arg_pv hc);refine wp_cond hv ?_;cases b with
   |true=>exact Z2d hE hT hm x _ Q σ a w hR h
   |false=>exact Z2d hE hT hm y _ Q σ a w hR h
  ·rename_i b hb;rw[show evO tm c = .pv (.sb b)from hb]at hc;have hv:=pr_sb (arg_pv hc);refine wp_cond hv ?_;cases b with
   |true=>exact Z2d hE hT hm x _ Q σ a w hR (h.1 rfl)
   |false=>exact Z2d hE hT hm y _ Q σ a w hR (h.2 rfl)
  exact h.elim
 | .block id c,s,Q,σ,a,w,hR,h=>by
  refine wp_block (wp_mono (Z2d hE hT hm c s _ σ a w hR h) (fun e a' w' he=>?_));cases e with
  |normal=>exact he
  |exit i=>
   obtain⟨s',σ',hq,hR'⟩:=he;have hq:(match Nat.beq i id with|true=>Q .normal s'|false=>Q (.exit i) s'):=hq;simp only[Exit.inBlock];cases hb:Nat.beq i id with
   |true=>
    rw[hb]at hq;rw[qK (qg hb)];exact⟨s',σ',hq,hR'⟩
   |false=>
    rw[hb]at hq;rw[qJ (fun e=>by rw[e]at hb;simp at hb)];exact⟨s',σ',hq,hR'⟩
  |ret=>exact he
  |goto l=>exact he.elim
  |panic c=>exact he.elim
  |outgrown=>exact he.elim
 | .loop c,s,Q,σ,a,w,hR,h=>by
  obtain⟨ι,J,I,m,i0,r0,hJ,hent,hround⟩:=h;obtain⟨σ0,hR0⟩:=Z0j hent E σ a w hE hR;refine Zj0 (I:=fun i a w=>J i∧∃σ,Rel P E (I i) σ a w) m (i0:=i0) ⟨hJ,σ0,hR0⟩ (fun i a w ⟨hj,σ,hr⟩=>?_);refine wp_mono (Z2d hE hT hm c (I i) _ σ a w hr (hround i hj)) (fun e a' w' he=>?_);cases e with
  |normal=>
   obtain⟨s',σ',⟨j,r',hj',hlt,hent'⟩,hR'⟩:=he;obtain⟨σ2,hR2⟩:=Z0j hent' E σ' a' w' hE hR';exact⟨j,⟨hj',σ2,hR2⟩,hlt⟩
  |exit i=>exact he
  |ret=>exact he
  |goto l=>exact he.elim
  |panic c=>exact he.elim
  |outgrown=>exact he.elim
 | .exit id,s,Q,σ,a,w,hR,h=>wp_exit ⟨s,σ,h,hR⟩
 | .ret,s,Q,σ,a,w,hR,h=>wp_ret ⟨s,σ,h,hR⟩
 | .rangeFunc ..,s,Q,σ,a,w,hR,h=>h.elim
 | .scope _,s,Q,σ,a,w,hR,h=>h.elim
 | .label _,s,Q,σ,a,w,hR,h=>h.elim
 | .goto _,s,Q,σ,a,w,hR,h=>h.elim
 | .refuse _,s,Q,σ,a,w,hR,h=>h.elim
end
theorem AC.of_awp_ice{P:Program}{T:Tab}{f:FuncId}{fn:Func}{c:Code}{args:List AV}{res:PV}(hT:T.ok P)(hm:P.follows .mixedOrders=true)(hcall:∀(vals:Array Value) (w:World),(callFunc f vals).run P w = .ok (.enter f vals) w)
  (hf:P.funcs[f]? = some fn) (hb:fn.body=some c) (hn:Nat.ble args.length fn.ntmps=true) (hp:noRefs args=true) (h:awpI P T fn.ntmps c ⟨argTm 0 args,[]⟩ (pureQ T fn res)):AC P f args [] (.pv res) []:=by
 refine⟨hcall,fun St M0 σ w vals hi hσ _ hl hA=>?_⟩;have hσ':σ=fun _=>none:=funext fun l=>hσ l rfl
 subst hσ';have hown:∀b,¬owned (fun _=>none) b:=fun b ⟨l,loc,h,_⟩=>by cases h
 have hle:=qi hn;have hE:FEnv.ok ⟨fn.ntmps,St,M0,fun _=>False,w,fun _=>none⟩:=⟨fun b hb=>⟨(hi.m0 b hb).1,id⟩,fun b hb=>⟨(hi.st b hb).1,id⟩,hi.gl.mono (Same.refl _ w) (fun b _ hb=>.inl (hb.elim id False.elim)),fun _ _ e=>by cases e⟩;have hget:∀t x,getT (argTm 0 args) t=x->x = .junk∨args[t]? = some x:=by
  intro t x e;rw[Z1v,qJ (by omega)]at e;cases ha:args[t-0]? with
  |none=>rw[ha]at e;exact .inl e.symm
  |some y=>rw[ha]at e;simp at e ha;subst e;exact .inr rfl
 have hR:Rel P ⟨fn.ntmps,St,M0,fun _=>False,w,fun _=>none⟩ ⟨argTm 0 args,[]⟩ (fun _=>none) { tmps:=vals++Array.replicate (fn.ntmps-vals.size) undef,defers:=[] } w:=by
  refine⟨by simp;omega,rfl,fun t=>?_,fun l o e=>by simp[getO]at e,fun _ _=>rfl,fun t l hl'=>?_,fun i o e=>by simp[getO]at e,fun l l' loc loc' b e=>(by cases e),fun b hb=>absurd hb (hown b),FExt.refl _ w,fun _ _ e=>by cases e⟩
  ·rcases hget t _ rfl with e|e
   ·rw[e];exact .junk _
   have:=hA t _ e;have hlt:t<args.length:=(qf.1 e).1;rw[Z0b (by omega)];exact this
  rcases hget t _ rfl with e|e
  ·rw[e]at hl';simp[refs]at hl'
  rw[Z21 hp t _ e]at hl';simp at hl'
 refine calls_of_wp hf hb (wp_mono (Z2d hE hT hm c _ _ _ _ w hR h) (fun e a' w' he=>?_));have fin:(∃s σ,resQ T fn.results.toList res s∧Rel P ⟨fn.ntmps,St,M0,fun _=>False,w,fun _=>none⟩ s σ a' w')->a'.defers = []∧∃v,(results fn a'.tmps).run P w' = .ok v w'∧∃v_1 σ',Ending.returned v = .returned v_1∧Post P St M0 (fun _=>none) w [] (.pv res) σ' v_1 w':=by
  rintro ⟨s,σ,hq,hR'⟩
  obtain⟨v,hr,hpv⟩:=Z7k hE hT hR' hq;refine⟨hR'.df,v,hr,v,fun _=>none,rfl,?_⟩;refine⟨.pv _ _ (hpv.mono (Same.refl _ w') (fun b _ hb=>?_)),fun l o e=>by simp[getO]at e,fun _ _=>rfl,fun l loc loc' e=>(by cases e),fun l l' loc loc' b e=>(by cases e),fun b hb=>absurd hb (hown b),hR'.ext.mono (fun _ _ h=>h.elim)⟩;rcases hb with hb|hb
  ·exact hb
  exact absurd hb (hown b)
 cases e with
 |normal=>exact fin he
 |ret=>exact fin he
 |exit i=>obtain⟨s,σ,hq,_⟩:=he;exact hq.elim
 |goto l=>exact he.elim
 |panic c=>exact he.elim
 |outgrown=>exact he.elim
end Go.Abs
namespace Go.Abs
open Go.Proofs Go.RowKit Go.Lib
set_option linter.unusedVariables false
set_option maxHeartbeats 4000000 in
set_option maxRecDepth 100000 in
theorem Zqi(b n c i vb vc:Nat)(cur nv:Array Value)(tb tv:TypeId)(w:World)(hi:i<n)(hroom:n+1<=c)(hc63:c<=9223372036854775807)(hvb:vb≠b)
  (hb:w.heap[b]? = some (.cells cur tb (0,0))) (hcs:cur.size=c*3) (hc1:∀v∈cur.toList,v.oneCell'=true)
  (hv:w.heap[vb]? = some (.cells nv tv (0,0))) (hvs:nv.size=vc*3) (hv1:∀v∈nv.toList,v.oneCell'=true) (hvc:1<=vc) :
  Calls Tryz.prog 141 #[.slice (some ⟨b,0,none⟩) n c,.int .i64 i,.slice (some ⟨vb,0,none⟩) 1 vc] w fun e w'=>
   e = .returned (.slice (some ⟨b,0,none⟩) (n+1) c)∧w'=(w.drew.setRow b (putC cur ((i+1)*3) ((cur.toList.drop (i*3)).take ((n-i)*3)))).setRow b (putC (putC cur ((i+1)*3) ((cur.toList.drop (i*3)).take ((n-i)*3))) (i*3) (nv.toList.take 3)):=by
 have t3:=Tryz.underlying3;have a3:=Tryz.isAgg3;have z3:=Tryz.sizeOf3;have v3:=Tryz.zeroValue3;have t4:=Tryz.underlying4;have a4:=Tryz.isAgg4;have z4:=Tryz.sizeOf4;have v4:=Tryz.zeroValue4;have t9:=Tryz.underlying58;have a9:=Tryz.isAgg58;have z9:=Tryz.sizeOf58;have v9:=Tryz.zeroValue58;have t24:=Tryz.underlying35;have a24:=Tryz.isAgg35;have z24:=Tryz.sizeOf35;have v24:=Tryz.zeroValue35;have u3:=run_underlying t3;have u4:=run_underlying t4;have u9:=run_underlying t9;have u24:=run_underlying t24;have hz2:¬((i:Int)=(n:Int)):=by omega
 have hsv:w.shape? vb=some (tv,nv.size):=by simp[World.shape?,hv]
 have hsb:w.shape? b=some (tb,cur.size):=by simp[World.shape?,hb]
 have hov:∀lb cb,(callFunc 200 #[.slice (some ⟨vb,0,none⟩) 1 vc,.slice (some ⟨b,(i+1)*3,none⟩) lb cb]).run Tryz.prog w = .ok (.value (.bool false)) w:=fun lb cb=>by
  rw[run_callFunc_extern Tryz.func200 (by kernel_rfl) (by kernel_rfl) (by kernel_rfl) (e:=Extern.SlicesOverlaps.overlaps #[35,35] #[4]) (by kernel_rfl),
   Lib.run_overlaps_apart w 35 4 58 t24 3 z9 ⟨vb,0,none⟩ ⟨b,(i+1)*3,none⟩ 1 vc lb cb hvb tv tb nv.size cur.size hsv hsb (by omega) (by simp[World.frozen?,hv]) (by simp[World.frozen?,hv])]
  rfl
 have hw1:IntKind.i64.wrap ((i:Int)+1)=(i:Int)+1:=by rw[IntKind.wrap_i64];omega
 have hw2:IntKind.i64.wrap ((n:Int)+1)=(n:Int)+1:=by rw[IntKind.wrap_i64];omega
 have hb1:(0:Int)<=(i:Int)+1:=by omega
 have hin:i<=n:=by omega
 have htn:((i:Int)+1).toNat=i+1:=by omega
 have htn2:((n:Int)+1).toNat=n+1:=by omega
 have hb2:¬(c=i+1):=by omega
 have hb3:(i:Int)<=(n:Int)+1:=by omega
 have hb4:¬(c=i):=by omega
 have hnc:¬((c:Int)<(n:Int)+1):=by omega
 obtain⟨cs,hcs1⟩:∃cs,cs=(cur.toList.drop (i*3)).take ((n-i)*3):=⟨_,rfl⟩;have hcl:cs.length=(n-i)*3:=by rw[hcs1];simp;omega
 have hcg:∀j v,cs[j]? = some v->cur[i*3+j]? = some v:=fun j v hj=>by
  rw[hcs1,qm]at hj
  split at hj
  ·rw[qA]at hj;simpa using hj
  ·cases hj
 have hcm:∀v∈cs,v.oneCell'=true:=fun v hv=>by rw[hcs1]at hv;exact hc1 v (List.mem_of_mem_drop (qn hv))
 have hcp1:∀ty dc sc,(Builtin.copy_ #[35,35] ty #[.slice (some ⟨b,(i+1)*3,none⟩) (n-i) dc,.slice (some ⟨b,i*3,none⟩) (n+1-i) sc]).run Tryz.prog w.drew = .ok (goInt ((n-i:Nat):Int)) (w.drew.setRow b (putC cur ((i+1)*3) cs)):=fun ty dc sc=>by
  have h0:=Z1j (P:=Tryz.prog) 3 w.drew 35 35 ty 58 b ((i+1)*3) (n-i) dc ⟨b,i*3,none⟩ (n+1-i) sc cur tb cs (n-i) t24 z9 hb (by simp only[Nat.min_def];split<;>omega) hcl
   (fun j v hj=>by
    have h:=hcg j v hj;rw[Addr.add_lit];show w.cell? _=_
    simp only[World.cell?,hb];simpa using h) (by rw[hcl];omega) hcm
  exact h0
 obtain⟨A1,hA1⟩:∃A1,A1=putC cur ((i+1)*3) cs:=⟨_,rfl⟩;have hA1s:A1.size=cur.size:=by rw[hA1,Z0n (by rw[hcl];omega)]
 have hg1:(w.drew.setRow b A1).heap[b]? = some (.cells A1 tb (0,0)):=setRow_heap w.drew b cur _ tb _ hb;have hv2:(w.drew.setRow b A1).heap[vb]? = some (.cells nv tv (0,0)):=by
  show(w.drew.heap.modify b _)[vb]? = _
  rw[qP,qJ (Ne.symm hvb)];exact hv
 have hvl:(nv.toList.take 3).length=1*3:=by simp;omega
 have hcp2:∀(W:World),W.heap=(w.drew.setRow b A1).heap->∀ty dc,(Builtin.copy_ #[35,35] ty #[.slice (some ⟨b,i*3,none⟩) (n+1-i) dc,.slice (some ⟨vb,0,none⟩) 1 vc]).run Tryz.prog W = .ok (goInt ((1:Nat):Int)) (W.setRow b (putC A1 (i*3) (nv.toList.take 3))):=fun W hW ty dc=>by
  have h0:=Z1j (P:=Tryz.prog) 3 W 35 35 ty 58 b (i*3) (n+1-i) dc ⟨vb,0,none⟩ 1 vc A1 tb (nv.toList.take 3) 1 t24 z9 (by rw[hW];exact hg1) (by simp only[Nat.min_def];split<;>omega) hvl
   (fun j v hj=>by
    rw[Addr.add_lit,Nat.zero_add];simp only[World.cell?,hW,hv2];rw[qm]at hj
    split at hj
    ·simpa using hj
    ·cases hj) (by rw[hvl];omega) (fun v hv=>hv1 v (qn hv))
  exact h0
 rw[<-hA1]at hcp1;rw[<-hcs1,<-hA1];have mixed:=hm
 go_enter Tryz.func141,Tryz.ntmps141
 go_wp2_with (simp only[hov])
 go_region_law_o (refine step_copy_runI rfl _ _ 35 35 rfl _ _ (by simp[Act.eval,Act.put]) (by simp[Act.eval,Act.put]) (hcp1 _ _ _) ?_)
 go_wp2_with (at_builtin;refine wpList_copy_runI _ rfl _ _ 35 35 rfl _ _ rfl rfl (hcp2 _ rfl _ _) ?_)
 go_ret
 exact⟨rfl,by rw[hA1,hcs1]⟩
theorem Zi8{w:World}{vb vc:Nat}{nv:Array Value}{tv:TypeId}(hv:w.heap[vb]? = some (.cells nv tv (0,0)))(hvs:nv.size=vc*3)(hv1:∀v∈nv.toList,v.oneCell'=true)(hvc:1<=vc) :
  Go.Src Tryz.prog 3 35 (.slice (some ⟨vb,0,none⟩) 1 vc) 1 (nv.toList.take 3) w:=
 Go.Src.ofSlice (w:=w) Tryz.underlying35 ⟨vb,0,none⟩ 1 vc (nv.toList.take 3) (by simp;omega) (fun j u hj=>by
  rw[Addr.add_lit,Nat.zero_add];simp only[World.cell?,hv];rw[qm]at hj
  split at hj
  ·simpa using hj
  ·cases hj) (fun v hv=>hv1 v (qn hv))
set_option maxHeartbeats 4000000 in
set_option maxRecDepth 100000 in
theorem Zqg(b n c vb vc:Nat)(cur nv:Array Value)(tb tv:TypeId)(w:World)(hroom:n+1<=c)(hc63:c<=9223372036854775807)
  (hb:w.heap[b]? = some (.cells cur tb (0,0))) (hcs:cur.size=c*3)
  (hv:w.heap[vb]? = some (.cells nv tv (0,0))) (hvs:nv.size=vc*3) (hv1:∀v∈nv.toList,v.oneCell'=true) (hvc:1<=vc) :
  Calls Tryz.prog 141 #[.slice (some ⟨b,0,none⟩) n c,.int .i64 n,.slice (some ⟨vb,0,none⟩) 1 vc] w fun e w'=>
   e = .returned (.slice (some ⟨b,0,none⟩) (n+1) c)∧w'=w.setCells b (n*3) (nv.toList.take 3):=by
 have t3:=Tryz.underlying3;have a3:=Tryz.isAgg3;have z3:=Tryz.sizeOf3;have v3:=Tryz.zeroValue3;have t4:=Tryz.underlying4;have a4:=Tryz.isAgg4;have z4:=Tryz.sizeOf4;have v4:=Tryz.zeroValue4;have t9:=Tryz.underlying58;have a9:=Tryz.isAgg58;have z9:=Tryz.sizeOf58;have v9:=Tryz.zeroValue58;have t24:=Tryz.underlying35;have a24:=Tryz.isAgg35;have z24:=Tryz.sizeOf35;have v24:=Tryz.zeroValue35;have u3:=run_underlying t3;have u4:=run_underlying t4;have u9:=run_underlying t9;have u24:=run_underlying t24;have mixed:=hm;obtain⟨i0,hi0,hz0,hzs,hzb⟩:=info_parts (show(Tryz.prog.info? 58).map (fun i=>(i.zero,i.size,i.bytes))=some (some (.agg #[.int .i64 0,.string ⟨#[]⟩,.string ⟨#[]⟩]),3,40)from by kernel_rfl);have hvl:(nv.toList.take 3).length=3:=by simp;omega
 have hsrc:=Zi8 hv hvs hv1 hvc;have hrun:∀ty,(Builtin.append_ #[35,35] ty #[.slice (some ⟨b,0,none⟩) n c,.slice (some ⟨vb,0,none⟩) 1 vc]).run Tryz.prog w = .ok (.slice (some ⟨b,0,none⟩) (n+1) c) (w.setCells b (n*3) (nv.toList.take 3)):=fun ty=>by
  have h0:=run_append_room_src (P:=Tryz.prog) (w:=w) 35 35 ty 58 i0 t24 hi0 b 0 n c (.slice (some ⟨vb,0,none⟩) 1 vc) 1 (nv.toList.take 3) (by rw[hzs];exact hsrc) hroom
   (fun j hj=>by
    rw[hzs];have h1:n*3+j<cur.size:=by omega
    simp only[World.cell?,hb,Nat.zero_add];simp[h1]) (fun j hj=>by simp[World.frozen?,hb])
  rw[hzs,Nat.zero_add]at h0;exact h0
 go_enter Tryz.func141,Tryz.ntmps141
 go_wp2_with (at_builtin;refine Lib.wpList_append_run _ rfl _ _ _ _ rfl _ _ rfl rfl _ _ (hrun _) ?_)
 go_ret
 exact⟨rfl,rfl⟩
set_option maxHeartbeats 4000000 in
set_option maxRecDepth 100000 in
theorem Zf2(base:Option Addr)(n c vb vc:Nat)(olds:List Value)(nv:Array Value)(tv:TypeId)(w:World)(hnc:n<=c)(hroom:c<n+1)(hbig:(n+1)*40<=140737488355328)
  (hold:(Builtin.firstCells 3 n (.slice base n c)).run Tryz.prog w.drew = .ok olds.toArray w.drew) (hnil:base=none->n=0)
  (hv:w.heap[vb]? = some (.cells nv tv (0,0))) (hvs:nv.size=vc*3) (hv1:∀v∈nv.toList,v.oneCell'=true) (hvc:1<=vc) :
  Calls Tryz.prog 141 #[.slice base n c,.int .i64 n,.slice (some ⟨vb,0,none⟩) 1 vc] w fun e w'=>
   e = .returned (.slice (some ⟨w.heap.size,0,none⟩) (n+1) (grownCap w (n+1) c 58))∧
   w'=w.drew.alloc (.cells ((olds++nv.toList.take 3).toArray++Builtin.zeroCells (Value.agg #[.int .i64 0,.string ⟨#[]⟩,.string ⟨#[]⟩]).cells (grownCap w (n+1) c 58-(n+1))) 58):=by
 have t3:=Tryz.underlying3;have a3:=Tryz.isAgg3;have z3:=Tryz.sizeOf3;have v3:=Tryz.zeroValue3;have t4:=Tryz.underlying4;have a4:=Tryz.isAgg4;have z4:=Tryz.sizeOf4;have v4:=Tryz.zeroValue4;have t9:=Tryz.underlying58;have a9:=Tryz.isAgg58;have z9:=Tryz.sizeOf58;have v9:=Tryz.zeroValue58;have t24:=Tryz.underlying35;have a24:=Tryz.isAgg35;have z24:=Tryz.sizeOf35;have v24:=Tryz.zeroValue35;have u3:=run_underlying t3;have u4:=run_underlying t4;have u9:=run_underlying t9;have u24:=run_underlying t24;have mixed:=hm;obtain⟨i0,hi0,hz0,hzs,hzb⟩:=info_parts (show(Tryz.prog.info? 58).map (fun i=>(i.zero,i.size,i.bytes))=some (some (.agg #[.int .i64 0,.string ⟨#[]⟩,.string ⟨#[]⟩]),3,40)from by kernel_rfl);have hsrc:=Zi8 hv hvs hv1 hvc;have hrun:∀ty,(Builtin.append_ #[35,35] ty #[.slice base n c,.slice (some ⟨vb,0,none⟩) 1 vc]).run Tryz.prog w=_:=fun ty=>
  run_append_grow_src (P:=Tryz.prog) (w:=w) 35 35 ty 58 i0 _ t24 hi0 hz0 base n c olds (by rw[hzs];exact hold) (.slice (some ⟨vb,0,none⟩) 1 vc) 1 (nv.toList.take 3) (by rw[hzs];exact hsrc) hroom (by omega) (by rw[hzb];exact growslice_fits hroom hbig)
 go_enter Tryz.func141,Tryz.ntmps141
 cases base with
 |none=>
  have h0:=hnil rfl;subst h0
  go_wp2_with (at_builtin;refine Lib.wpList_append_run _ rfl _ _ _ _ rfl _ _ rfl rfl _ _ (hrun _) ?_)
  go_ret
  exact⟨rfl,rfl⟩
 |some a=>
  obtain⟨ab,ao,asp⟩:=a
  go_wp2_with (at_builtin;refine Lib.wpList_append_run _ rfl _ _ _ _ rfl _ _ rfl rfl _ _ (hrun _) ?_)
  all_goals(go_ret;exact⟨rfl,rfl⟩)
set_option maxHeartbeats 4000000 in
set_option maxRecDepth 100000 in
theorem Zqh(b n c i vb vc:Nat)(cur nv:Array Value)(tb tv:TypeId)(w:World)(hi:i<n)(hnc:n<=c)(hroom:c<n+1)(hbig:(n+1)*40<=140737488355328)
  (hb:w.heap[b]? = some (.cells cur tb (0,0))) (hcs:cur.size=c*3) (hc1:∀v∈cur.toList,v.oneCell'=true)
  (hv:w.heap[vb]? = some (.cells nv tv (0,0))) (hvs:nv.size=vc*3) (hv1:∀v∈nv.toList,v.oneCell'=true) (hvc:1<=vc) :
  ∃G ROW W1,n+1<=G∧G<=maxLen∧ROW=(cur.toList.take (i*3)).toArray++Builtin.zeroCells (Value.agg #[.int .i64 0,.string ⟨#[]⟩,.string ⟨#[]⟩]).cells (n+1-i)++Builtin.zeroCells (Value.agg #[.int .i64 0,.string ⟨#[]⟩,.string ⟨#[]⟩]).cells (G-(n+1))∧W1=w.drew.alloc (.cells ROW 58)∧
  Calls Tryz.prog 141 #[.slice (some ⟨b,0,none⟩) n c,.int .i64 i,.slice (some ⟨vb,0,none⟩) 1 vc] w fun e w'=>
   e = .returned (.slice (some ⟨w.heap.size,0,none⟩) (n+1) G)∧w'=(((W1.setRow w.heap.size (putC ROW (i*3) (nv.toList.take 3)))).drew).setRow w.heap.size (putC (putC ROW (i*3) (nv.toList.take 3)) ((i+1)*3) ((cur.toList.drop (i*3)).take ((n-i)*3))):=by
 have t3:=Tryz.underlying3;have a3:=Tryz.isAgg3;have z3:=Tryz.sizeOf3;have v3:=Tryz.zeroValue3;have t4:=Tryz.underlying4;have a4:=Tryz.isAgg4;have z4:=Tryz.sizeOf4;have v4:=Tryz.zeroValue4;have t9:=Tryz.underlying58;have a9:=Tryz.isAgg58;have z9:=Tryz.sizeOf58;have v9:=Tryz.zeroValue58;have t24:=Tryz.underlying35;have a24:=Tryz.isAgg35;have z24:=Tryz.sizeOf35;have v24:=Tryz.zeroValue35;have u3:=run_underlying t3;have u4:=run_underlying t4;have u9:=run_underlying t9;have u24:=run_underlying t24;have mixed:=hm;obtain⟨i0,hi0,hz0,hzs,hzb⟩:=info_parts (show(Tryz.prog.info? 58).map (fun i=>(i.zero,i.size,i.bytes))=some (some (.agg #[.int .i64 0,.string ⟨#[]⟩,.string ⟨#[]⟩]),3,40)from by kernel_rfl);have hbw:b<w.heap.size:=Z0e hb;have hvw:vb<w.heap.size:=Z0e hv;have hz2:¬((i:Int)=(n:Int)):=by omega
 have hz3:(c:Int)<(n:Int)+1:=by omega
 have hkk:(n:Int)+1-(i:Int)=((n+1-i:Nat):Int):=by omega
 have hik:i+(n+1-i)=n+1:=by omega
 have hcell:∀(o j:Nat) (v:Value),cur[o+j]? = some v->w.cell? ⟨b,o+j,none⟩=some v:=fun o j v h=>by
  simp only[World.cell?,hb];simpa using h
 have hold:(Builtin.firstCells i0.size i (.slice (some ⟨b,0,none⟩) i c)).run Tryz.prog w.drew = .ok (cur.toList.take (i*3)).toArray w.drew:=by
  rw[hzs];exact run_firstCells_some w.drew 3 i ⟨b,0,none⟩ i c (cur.toList.take (i*3)) (by rw[qq];simp;omega) (fun j v hj=>by
   rw[Addr.add_lit];rw[qm]at hj
   split at hj
   ·exact hcell 0 j v (by simpa using hj)
   ·cases hj)
 obtain⟨G,hG⟩:∃G,G=grownCap w (n+1) c 58:=⟨_,rfl⟩;obtain⟨ROW,hROW⟩:∃ROW:Array Value,ROW=(cur.toList.take (i*3)).toArray++Builtin.zeroCells (Value.agg #[.int .i64 0,.string ⟨#[]⟩,.string ⟨#[]⟩]).cells (n+1-i)++Builtin.zeroCells (Value.agg #[.int .i64 0,.string ⟨#[]⟩,.string ⟨#[]⟩]).cells (G-(n+1)):=⟨_,rfl⟩;have hrz:∀ty,(Builtin.append_ #[35,3] ty #[.slice (some ⟨b,0,none⟩) i c,.int .i64 ((n:Int)+1-(i:Int))]).run Tryz.prog w =
   .ok (.slice (some ⟨w.heap.size,0,none⟩) (n+1) G) (w.drew.alloc (.cells ROW 58)):=fun ty=>by
  have h:=Lib.run_append_grow_zeros (P:=Tryz.prog) w 35 3 ty 58 i0 _ .i64 .i64 t24 t3 hi0 hz0 (some ⟨b,0,none⟩) i c (cur.toList.take (i*3)) hold (n+1-i) (by omega) (by omega) (by omega) (by omega) (by rw[hzb];omega) (by rw[hzb,hik];exact growslice_fits hroom hbig);rw[hik]at h;rw[hkk,hROW,hG];exact h
 have hGn:n+1<=G:=by rw[hG];exact grownCap_ge w _ _ _
 have hGm:G<=maxLen:=by rw[hG];exact grownCap_le_maxLen w (n+1) c 58 (by unfold maxLen;omega)
 have hG63:G<=9223372036854775807:=by unfold maxLen at hGm;omega
 have hRl:ROW.size=G*3:=by
  rw[hROW];simp[Builtin.zeroCells,Value.cells];omega
 obtain⟨W1,hW1⟩:∃W1,W1=w.drew.alloc (.cells ROW 58):=⟨_,rfl⟩;refine⟨G,ROW,W1,hGn,hGm,hROW,hW1,?_⟩;rw[<-hW1]at hrz;have hN1:W1.heap[w.heap.size]? = some (.cells ROW 58 (0,0)):=by rw[hW1];exact Z0g w.drew _
 have hB1:W1.heap[b]? = some (.cells cur tb (0,0)):=by rw[hW1];exact(Z12 w.drew _ b hbw).trans hb
 have hV1:W1.heap[vb]? = some (.cells nv tv (0,0)):=by rw[hW1];exact(Z12 w.drew _ vb hvw).trans hv
 have hvl:(nv.toList.take 3).length=1*3:=by simp;omega
 have hcpA:∀(W:World),W.heap=W1.heap->∀ty dc,(Builtin.copy_ #[35,35] ty #[.slice (some ⟨w.heap.size,i*3,none⟩) (n+1-i) dc,.slice (some ⟨vb,0,none⟩) 1 vc]).run Tryz.prog W = .ok (goInt ((1:Nat):Int)) (W.setRow w.heap.size (putC ROW (i*3) (nv.toList.take 3))):=fun W hW ty dc=>by
  have h0:=Z1j (P:=Tryz.prog) 3 W 35 35 ty 58 w.heap.size (i*3) (n+1-i) dc ⟨vb,0,none⟩ 1 vc ROW 58 (nv.toList.take 3) 1 t24 z9 (by rw[hW];exact hN1) (by simp only[Nat.min_def];split<;>omega) hvl
   (fun j v hj=>by
    rw[Addr.add_lit,Nat.zero_add];simp only[World.cell?,hW,hV1];rw[qm]at hj
    split at hj
    ·simpa using hj
    ·cases hj) (by rw[hvl];omega) (fun v hv=>hv1 v (qn hv))
  exact h0
 obtain⟨A1,hA1⟩:∃A1,A1=putC ROW (i*3) (nv.toList.take 3):=⟨_,rfl⟩;have hA1s:A1.size=ROW.size:=by rw[hA1,Z0n (by rw[hvl];omega)]
 obtain⟨cs,hcs1⟩:∃cs,cs=(cur.toList.drop (i*3)).take ((n-i)*3):=⟨_,rfl⟩;have hcl:cs.length=(n-i)*3:=by rw[hcs1];simp;omega
 have hcg:∀j v,cs[j]? = some v->cur[i*3+j]? = some v:=fun j v hj=>by
  rw[hcs1,qm]at hj
  split at hj
  ·rw[qA]at hj;simpa using hj
  ·cases hj
 have hcm:∀v∈cs,v.oneCell'=true:=fun v hv=>by rw[hcs1]at hv;exact hc1 v (List.mem_of_mem_drop (qn hv))
 have hN2:(W1.setRow w.heap.size A1).heap[w.heap.size]? = some (.cells A1 58 (0,0)):=setRow_heap W1 w.heap.size ROW _ 58 _ hN1;have hB2:(W1.setRow w.heap.size A1).heap[b]? = some (.cells cur tb (0,0)):=by
  show(W1.heap.modify w.heap.size _)[b]? = _
  rw[qP,qJ (by omega)];exact hB1
 have hcpB:∀(W:World),W.heap=(W1.setRow w.heap.size A1).heap->∀ty dc sc,(Builtin.copy_ #[35,35] ty #[.slice (some ⟨w.heap.size,(i+1)*3,none⟩) (n-i) dc,.slice (some ⟨b,i*3,none⟩) (n-i) sc]).run Tryz.prog W = .ok (goInt ((n-i:Nat):Int)) (W.setRow w.heap.size (putC A1 ((i+1)*3) cs)):=fun W hW ty dc sc=>by
  have h0:=Z1j (P:=Tryz.prog) 3 W 35 35 ty 58 w.heap.size ((i+1)*3) (n-i) dc ⟨b,i*3,none⟩ (n-i) sc A1 58 cs (n-i) t24 z9 (by rw[hW];exact hN2) (by simp only[Nat.min_def];split<;>omega) hcl
   (fun j v hj=>by
    have h:=hcg j v hj;rw[Addr.add_lit];simp only[World.cell?,hW,hB2];simpa using h) (by rw[hcl];omega) hcm
  exact h0
 have hw1:IntKind.i64.wrap ((i:Int)+1)=(i:Int)+1:=by rw[IntKind.wrap_i64];omega
 have hw2:IntKind.i64.wrap ((n:Int)+1)=(n:Int)+1:=by rw[IntKind.wrap_i64];omega
 have hw3:IntKind.i64.wrap ((n:Int)+1-(i:Int))=(n:Int)+1-(i:Int):=by rw[IntKind.wrap_i64];omega
 have hb1:(0:Int)<=(i:Int)+1:=by omega
 have hin:i<=n:=by omega
 have htn:((i:Int)+1).toNat=i+1:=by omega
 have hb3:(i:Int)<=(n:Int):=by omega
 have hGi:¬(G=i):=by omega
 have hGim:¬(G=i+1):=by omega
 have hci:¬(c=i):=by omega
 rw[<-hA1]at hcpA;rw[<-hA1,<-hcs1];clear hkk hik hold hROW hG hW1 hcs1 hA1
 go_enter Tryz.func141,Tryz.ntmps141
 go_wp2_with (first
  |(at_builtin;refine Lib.wpList_append_run _ rfl _ _ _ _ rfl _ _ rfl rfl _ _ (hrz _) ?_)
  |(at_builtin;refine wpList_copy_runI _ rfl _ _ 35 35 rfl _ _ rfl rfl (hcpA _ rfl _ _) ?_))
 go_region_law_o (refine step_copy_runI rfl _ _ 35 35 rfl (.slice (some ⟨w.heap.size,(i+1)*3,none⟩) (n-i) (G-(i+1))) (.slice (some ⟨b,i*3,none⟩) (n-i) (c-i)) (by simp[Act.eval,Act.put]) (by simp[Act.eval,Act.put]) (hcpB (W1.setRow w.heap.size A1).drew rfl 3 (G-(i+1)) (c-i)) ?_)
 go_wp2
 go_ret
 exact⟨rfl,rfl⟩
theorem Z80(m:Nat):∀v∈(Builtin.zeroCells (Value.agg #[.int .i64 0,.string ⟨#[]⟩,.string ⟨#[]⟩]).cells m).toList,v.oneCell'=true:=by
 intro v hv;obtain⟨j,hj,rfl⟩:=qp hv;have h3:j%3=0∨j%3=1∨j%3=2:=by omega
 simp only[Builtin.zeroCells,Value.cells,Array.toList_map,List.getElem_map,Array.toList_range,List.getElem_range];show(#[Value.int .i64 0,.string ⟨#[]⟩,.string ⟨#[]⟩][j%3]!).oneCell'=true
 rcases h3 with h|h|h<;>rw[h]<;>rfl
theorem Zj2(m:Nat):(Builtin.zeroCells (Value.agg #[.int .i64 0,.string ⟨#[]⟩,.string ⟨#[]⟩]).cells m).size=m*3:=by simp[Builtin.zeroCells,Value.cells]
theorem Z3w{nv:Array Value}{m y:Nat}(h:y<m):(nv.toList.take m).getD y undef=nv.getD y undef:=by
 simp only[List.getD,qb];rw[List.getElem?_take_of_lt h,Array.getElem?_toList]
theorem Zg4{cur:Array Value}{a m y:Nat}(h:y<m):((cur.toList.drop a).take m).getD y undef=cur.getD (a+y) undef:=by
 simp only[List.getD,qb];rw[List.getElem?_take_of_lt h,qA,Array.getElem?_toList]
set_option maxHeartbeats 1000000 in
theorem Zms{l:List Key}{i:Nat}{x:Key}{g:Nat->List PV}(hil:i<=l.length)(hln:l.length<=1048576)(hgx:PSubs (g 0) (cKey x)) :
  AC Tryz.prog 141 [.own 0,.pv (vint i),.own 2] [(0,rowL 3 cKey l),(2,.row 3 1 g)] (.own 1) [(1,rowL 3 cKey (insL l i x)),(0,.gone)]:=by
 refine⟨Tryz.call141,fun St M0 σ w vals hi hσ hos hsz hA=>?_⟩;obtain⟨loc0,hl0,hor⟩:=hos 0 _ (by simp[getO];rfl);obtain⟨loc2,hl2,hor2⟩:=hos 2 (.row 3 1 g) (by simp[getO]);have h1:σ 1=none:=hσ 1 (by simp[getO]);have hv0:=Z0l (hA 0 (.own 0) rfl) hl0;have hv1:=pr_val (arg_pv (hA 1 (.pv (vint i)) rfl));have hv2:=Z0l (hA 2 (.own 2) rfl) hl2;have hvals:vals=#[vals.getD 0 undef,vals.getD 1 undef,vals.getD 2 undef]:=by
  have hs2:vals.size=3:=hsz;apply Array.ext
  ·simpa using hs2
  ·intro i h2 h3;have:i=0∨i=1∨i=2:=by omega
   rcases this with rfl|rfl|rfl<;>simp[Array.getD,hs2]
 rw[hvals,hv0,hv1,hv2];generalize hk1:(1:Nat)=n1 at hor2;cases hor2 with
 |row0 _ _ a=>cases hk1
 |row _ _ _ b2 cap2 nv tv hb2 hn2 hmax2 hsz2 hs2 hh2 hone2=>
 subst hk1;have hnv1:∀v∈nv.toList,v.oneCell'=true:=fun v hv=>by
  obtain⟨j,hj,rfl⟩:=qp hv;have:=hone2 j (by simpa using hj);simpa[Array.getD,show j<nv.size from by simpa using hj]using this
 have hnew:∀q p,(g 0)[q]? = some p->PR w (Mof M0 σ) p (nv.getD q undef):=fun q p e=>by
  have:=hh2 0 (by omega) q p e;rwa[Nat.zero_mul,Nat.zero_add]at this
 have hnl:(nv.toList.take 3).length=3:=by simp;omega
 have hnm:∀v∈nv.toList.take 3,v.oneCell'=true:=fun v hv=>hnv1 v (qn hv)
 change OR _ _ _ _ _ (.row 3 l.length fun j=>cKey (l.getD j default)) loc0 at hor;generalize hn0:l.length=n0 at hor;have hml:n0+1<=maxLen:=by unfold maxLen;omega
 cases hor with
 |row0 _ _ a=>
  have hi0:i=0:=by omega
  subst hi0;refine(Zf2 a 0 0 b2 cap2 [] nv tv w (by omega) (by omega) (by omega) (by
   cases a with
   |none=>exact run_firstCells_none w.drew 3 0 0 0
   |some ad=>exact run_firstCells_some w.drew 3 0 ad 0 0 [] rfl (fun j v hj=>by simp at hj)) (fun _=>rfl) hb2 hsz2 hnv1 hn2).mono (fun e w' h=>?_)
  obtain⟨rfl,rfl⟩:=h;have hge:=grownCap_ge w (0+1) 0 58;have hp:=Z4k (P:=Tryz.prog) (x:=x) (g:=g) (enc:=cKey) (k:=3) (cur:=#[]) (nv:=nv) (A:=(([]++nv.toList.take 3).toArray++Builtin.zeroCells (Value.agg #[.int .i64 0,.string ⟨#[]⟩,.string ⟨#[]⟩]).cells (grownCap w (0+1) 0 58-(0+1)))) (t':=58) (c':=grownCap w (0+1) 0 58) hi h1 hl0 hil (.inr (qL _)) (drew_ext.trans (Z2e _ _)) (Z0g w.drew _) (by rw[hn0];exact hge) (grownCap_le_maxLen w _ _ _ hml) (by rw[Array.size_append,List.size_toArray,List.nil_append,hnl,Zj2];omega) (fun v hv=>?_) (fun _=>rfl) hgx (fun j hj=>by omega) hnew (fun y hy=>?_)
  ·rw[hn0]at hp;exact⟨_,_,rfl,hp⟩
  ·simp only[Array.toList_append,qo,List.nil_append]at hv;rcases hv with hv|hv
   ·exact hnm v hv
   ·exact Z80 _ v hv
  ·rw[hn0]at hy;rw[qJ (by omega),qK (by omega),Z0b (by rw[List.size_toArray,List.nil_append,hnl];omega),Nat.zero_mul,Nat.sub_zero,Z2r,List.nil_append,Z3w (m:=3) (by omega)]
 |row _ _ _ b cap vs tb hb hn hmax hsz' hs hh hone=>
  have hc1:∀v∈vs.toList,v.oneCell'=true:=fun v hv=>by
   obtain⟨j,hj,rfl⟩:=qp hv;have:=hone j (by simpa using hj);simpa[Array.getD,show j<vs.size from by simpa using hj]using this
  have hne:b2≠b:=fun e=>by
   subst e;have:=hi.sep 0 2 _ _ b2 hl0 hl2 rfl rfl;cases this
  subst hn0;have hc63:cap<=9223372036854775807:=by unfold maxLen at hmax;omega
  have fin:=fun(w':World) (b' c':Nat) (A:Array Value) (t':TypeId) (hb') (hx) (hA) (hn') (hm') (hz) (ho) (hg)=>Z4k (P:=Tryz.prog) (w':=w') (b':=b') (c':=c') (A:=A) (t':=t') (x:=x) (g:=g) (enc:=cKey) (k:=3) (cur:=vs) (nv:=nv) hi h1 hl0 hil hb' hx hA hn' hm' hz ho (fun _=>rfl) hgx (fun j hj q p e=>hh j hj q p e) hnew hg
  by_cases hin:i=l.length
  ·subst hin
   by_cases hroom:l.length+1<=cap
   ·refine(Zqg b l.length cap b2 cap2 vs nv tb tv w hroom hc63 hb hsz' hb2 hsz2 hnv1 hn2).mono (fun e w' h=>?_);obtain⟨rfl,rfl⟩:=h;rw[Zb3 (P:=Tryz.prog) hb (by rw[hnl];omega) hnm];refine⟨_,_,rfl,fin _ b cap (putC vs (l.length*3) (nv.toList.take 3)) tb (.inl rfl) (setRow_ext.mono fun c _ h=>by rw[h]) (setRow_heap w b vs _ tb _ hb) hroom hmax (by rw[Z0n (by rw[hnl];omega)];exact hsz') (Z18 hc1 hnm) (fun y hy=>?_)⟩;rw[Z17 (by rw[hnl];omega),hnl]
    by_cases hy1:y<l.length*3
    ·rw[qJ (by omega),qK hy1]
    ·rw[qK (by omega),qJ hy1,qK (by omega),Z3w (by omega)]
   ·refine(Zf2 (some ⟨b,0,none⟩) l.length cap b2 cap2 (vs.toList.take (l.length*3)) nv tv w hn (by omega) (by omega) (run_firstCells_some w.drew 3 l.length ⟨b,0,none⟩ l.length cap _ (by simp;omega) (fun j v hj=>?_)) (fun h=>by cases h) hb2 hsz2 hnv1 hn2).mono (fun e w' h=>?_)
    ·rw[Addr.add_lit,Nat.zero_add];rw[qm]at hj
     split at hj
     ·show w.cell? _=_
      simp only[World.cell?,hb];simpa using hj
     ·cases hj
    obtain⟨rfl,rfl⟩:=h;have htl:(vs.toList.take (l.length*3)).length=l.length*3:=by simp;omega
    have hge:=grownCap_ge w (l.length+1) cap 58;refine⟨_,_,rfl,fin _ w.heap.size (grownCap w (l.length+1) cap 58) _ 58 (.inr (qL _)) (drew_ext.trans (Z2e _ _)) (Z0g w.drew _) hge (grownCap_le_maxLen w _ _ _ hml) (by rw[Array.size_append,List.size_toArray,ql,hnl,htl,Zj2];omega) (fun v hv=>?_) (fun y hy=>?_)⟩
    ·simp only[Array.toList_append,qo]at hv;rcases hv with(hv|hv)|hv
     ·exact hc1 v (qn hv)
     ·exact hnm v hv
     ·exact Z80 _ v hv
    ·rw[Z0b (by rw[List.size_toArray,ql,hnl,htl];omega),Z2r]
     by_cases hy1:y<l.length*3
     ·rw[qK hy1,Za6 (by rw[htl];exact hy1),Z3w hy1]
     ·rw[qJ hy1,qK (by omega),Z9q (by rw[htl];omega),htl,Z3w (by omega)]
  ·have hcl:((vs.toList.drop (i*3)).take ((l.length-i)*3)).length=(l.length-i)*3:=by simp;omega
   have hcm:∀v∈(vs.toList.drop (i*3)).take ((l.length-i)*3),v.oneCell'=true:=fun v hv=>hc1 v (List.mem_of_mem_drop (qn hv))
   by_cases hroom:l.length+1<=cap
   ·refine(Zqi b l.length cap i b2 cap2 vs nv tb tv w (by omega) hroom hc63 hne hb hsz' hc1 hb2 hsz2 hnv1 hn2).mono (fun e w' h=>?_);obtain⟨rfl,rfl⟩:=h;have hs1:(putC vs ((i+1)*3) ((vs.toList.drop (i*3)).take ((l.length-i)*3))).size=vs.size:=Z0n (by rw[hcl];omega);refine⟨_,_,rfl,fin _ b cap _ tb (.inl rfl) ((drew_ext.trans setRow_ext).trans setRow_ext |>.mono fun c _ h=>by rw[h]) (setRow_heap _ b _ _ tb _ (setRow_heap w.drew b vs _ tb _ hb)) hroom hmax (by rw[Z0n (by rw[hs1,hnl];omega),hs1];exact hsz') (Z18 (Z18 hc1 hcm) hnm) (fun y hy=>?_)⟩;rw[Z17 (by rw[hs1,hnl];omega),hnl,Z17 (by rw[hcl];omega),hcl]
    by_cases hy1:y<i*3
    ·rw[qJ (by omega),qJ (by omega),qK hy1]
    ·rw[qJ hy1]
     by_cases hy2:y<(i+1)*3
     ·rw[qK (by omega),qK hy2,Z3w (by omega)]
     ·rw[qJ (by omega),qK (by omega),qJ hy2,Zg4 (by omega)];congr 1;omega
   ·obtain⟨G,ROW,W1,hG1,hG2,hROW,hW1,hcalls⟩:=Zqh b l.length cap i b2 cap2 vs nv tb tv w (by omega) hn (by omega) (by omega) hb hsz' hc1 hb2 hsz2 hnv1 hn2;refine hcalls.mono (fun e w' h=>?_);obtain⟨rfl,rfl⟩:=h;have hRs:ROW.size=G*3:=by rw[hROW];simp[Builtin.zeroCells,Value.cells];omega
    have hRo:∀v∈ROW.toList,v.oneCell'=true:=fun v hv=>by
     rw[hROW]at hv;simp only[Array.toList_append,qo]at hv;rcases hv with(hv|hv)|hv
     ·exact hc1 v (qn hv)
     ·exact Z80 _ v hv
     ·exact Z80 _ v hv
    have hRg:∀y,y<i*3->ROW.getD y undef=vs.getD y undef:=fun y hy=>by
     rw[hROW,Array.append_assoc,Z0b (by simp;omega),Z2r,Z3w hy]
    have hN1:W1.heap[w.heap.size]? = some (.cells ROW 58 (0,0)):=by rw[hW1];exact Z0g w.drew _
    have hs1:(putC ROW (i*3) (nv.toList.take 3)).size=ROW.size:=Z0n (by rw[hnl];omega);have hN2:=setRow_heap W1 w.heap.size ROW (putC ROW (i*3) (nv.toList.take 3)) 58 _ hN1;refine⟨_,_,rfl,fin _ w.heap.size G _ 58 (.inr (qL _)) ?_ (setRow_heap _ w.heap.size _ _ 58 _ hN2) hG1 hG2 (by rw[Z0n (by rw[hs1,hcl];omega),hs1];exact hRs) (Z18 (Z18 hRo hnm) hcm) (fun y hy=>?_)⟩
    ·have e1:FExt (fun b=>b=w.heap.size) w W1:=by rw[hW1];exact drew_ext.trans (Z2e _ _)
     have e2:=((e1.trans (setRow_ext (A:=putC ROW (i*3) (nv.toList.take 3)))).trans drew_ext).trans (setRow_ext (A:=putC (putC ROW (i*3) (nv.toList.take 3)) ((i+1)*3) ((vs.toList.drop (i*3)).take ((l.length-i)*3))));exact e2.mono fun c hc h=>absurd h (by omega)
    ·rw[Z17 (by rw[hs1,hcl];omega),hcl,Z17 (by rw[hnl];omega),hnl]
     by_cases hy1:y<i*3
     ·rw[qJ (by omega),qJ (by omega),qK hy1,hRg y hy1]
     ·rw[qJ hy1]
      by_cases hy2:y<(i+1)*3
      ·rw[qJ (by omega),qK (by omega),qK hy2,Z3w (by omega)]
      ·rw[qK (by omega),qJ hy2,Zg4 (by omega)];congr 1;omega
set_option maxHeartbeats 4000000 in
set_option maxRecDepth 100000 in
theorem Zqf(b n c i vb vc:Nat)(cur nv:Array Value)(tb tv:TypeId)(w:World)(hi:i<n)(hroom:n+1<=c)(hc63:c<=9223372036854775807)(hvb:vb≠b)
  (hb:w.heap[b]? = some (.cells cur tb (0,0))) (hcs:cur.size=c*3) (hc1:∀v∈cur.toList,v.oneCell'=true)
  (hv:w.heap[vb]? = some (.cells nv tv (0,0))) (hvs:nv.size=vc*3) (hv1:∀v∈nv.toList,v.oneCell'=true) (hvc:1<=vc) :
  Calls Tryz.prog 142 #[.slice (some ⟨b,0,none⟩) n c,.int .i64 i,.slice (some ⟨vb,0,none⟩) 1 vc] w fun e w'=>
   e = .returned (.slice (some ⟨b,0,none⟩) (n+1) c)∧w'=(w.drew.setRow b (putC cur ((i+1)*3) ((cur.toList.drop (i*3)).take ((n-i)*3)))).setRow b (putC (putC cur ((i+1)*3) ((cur.toList.drop (i*3)).take ((n-i)*3))) (i*3) (nv.toList.take 3)):=by
 have t3:=Tryz.underlying3;have a3:=Tryz.isAgg3;have z3:=Tryz.sizeOf3;have v3:=Tryz.zeroValue3;have t4:=Tryz.underlying4;have a4:=Tryz.isAgg4;have z4:=Tryz.sizeOf4;have v4:=Tryz.zeroValue4;have t9:=Tryz.underlying109;have a9:=Tryz.isAgg109;have z9:=Tryz.sizeOf109;have v9:=Tryz.zeroValue109;have t24:=Tryz.underlying36;have a24:=Tryz.isAgg36;have z24:=Tryz.sizeOf36;have v24:=Tryz.zeroValue36;have u3:=run_underlying t3;have u4:=run_underlying t4;have u9:=run_underlying t9;have u24:=run_underlying t24;have hz2:¬((i:Int)=(n:Int)):=by omega
 have hsv:w.shape? vb=some (tv,nv.size):=by simp[World.shape?,hv]
 have hsb:w.shape? b=some (tb,cur.size):=by simp[World.shape?,hb]
 have hov:∀lb cb,(callFunc 202 #[.slice (some ⟨vb,0,none⟩) 1 vc,.slice (some ⟨b,(i+1)*3,none⟩) lb cb]).run Tryz.prog w = .ok (.value (.bool false)) w:=fun lb cb=>by
  rw[run_callFunc_extern Tryz.func202 (by kernel_rfl) (by kernel_rfl) (by kernel_rfl) (e:=Extern.SlicesOverlaps.overlaps #[36,36] #[4]) (by kernel_rfl),
   Lib.run_overlaps_apart w 36 4 109 t24 3 z9 ⟨vb,0,none⟩ ⟨b,(i+1)*3,none⟩ 1 vc lb cb hvb tv tb nv.size cur.size hsv hsb (by omega) (by simp[World.frozen?,hv]) (by simp[World.frozen?,hv])]
  rfl
 have hw1:IntKind.i64.wrap ((i:Int)+1)=(i:Int)+1:=by rw[IntKind.wrap_i64];omega
 have hw2:IntKind.i64.wrap ((n:Int)+1)=(n:Int)+1:=by rw[IntKind.wrap_i64];omega
 have hb1:(0:Int)<=(i:Int)+1:=by omega
 have hin:i<=n:=by omega
 have htn:((i:Int)+1).toNat=i+1:=by omega
 have htn2:((n:Int)+1).toNat=n+1:=by omega
 have hb2:¬(c=i+1):=by omega
 have hb3:(i:Int)<=(n:Int)+1:=by omega
 have hb4:¬(c=i):=by omega
 have hnc:¬((c:Int)<(n:Int)+1):=by omega
 obtain⟨cs,hcs1⟩:∃cs,cs=(cur.toList.drop (i*3)).take ((n-i)*3):=⟨_,rfl⟩;have hcl:cs.length=(n-i)*3:=by rw[hcs1];simp;omega
 have hcg:∀j v,cs[j]? = some v->cur[i*3+j]? = some v:=fun j v hj=>by
  rw[hcs1,qm]at hj
  split at hj
  ·rw[qA]at hj;simpa using hj
  ·cases hj
 have hcm:∀v∈cs,v.oneCell'=true:=fun v hv=>by rw[hcs1]at hv;exact hc1 v (List.mem_of_mem_drop (qn hv))
 have hcp1:∀ty dc sc,(Builtin.copy_ #[36,36] ty #[.slice (some ⟨b,(i+1)*3,none⟩) (n-i) dc,.slice (some ⟨b,i*3,none⟩) (n+1-i) sc]).run Tryz.prog w.drew = .ok (goInt ((n-i:Nat):Int)) (w.drew.setRow b (putC cur ((i+1)*3) cs)):=fun ty dc sc=>by
  have h0:=Z1j (P:=Tryz.prog) 3 w.drew 36 36 ty 109 b ((i+1)*3) (n-i) dc ⟨b,i*3,none⟩ (n+1-i) sc cur tb cs (n-i) t24 z9 hb (by simp only[Nat.min_def];split<;>omega) hcl
   (fun j v hj=>by
    have h:=hcg j v hj;rw[Addr.add_lit];show w.cell? _=_
    simp only[World.cell?,hb];simpa using h) (by rw[hcl];omega) hcm
  exact h0
 obtain⟨A1,hA1⟩:∃A1,A1=putC cur ((i+1)*3) cs:=⟨_,rfl⟩;have hA1s:A1.size=cur.size:=by rw[hA1,Z0n (by rw[hcl];omega)]
 have hg1:(w.drew.setRow b A1).heap[b]? = some (.cells A1 tb (0,0)):=setRow_heap w.drew b cur _ tb _ hb;have hv2:(w.drew.setRow b A1).heap[vb]? = some (.cells nv tv (0,0)):=by
  show(w.drew.heap.modify b _)[vb]? = _
  rw[qP,qJ (Ne.symm hvb)];exact hv
 have hvl:(nv.toList.take 3).length=1*3:=by simp;omega
 have hcp2:∀(W:World),W.heap=(w.drew.setRow b A1).heap->∀ty dc,(Builtin.copy_ #[36,36] ty #[.slice (some ⟨b,i*3,none⟩) (n+1-i) dc,.slice (some ⟨vb,0,none⟩) 1 vc]).run Tryz.prog W = .ok (goInt ((1:Nat):Int)) (W.setRow b (putC A1 (i*3) (nv.toList.take 3))):=fun W hW ty dc=>by
  have h0:=Z1j (P:=Tryz.prog) 3 W 36 36 ty 109 b (i*3) (n+1-i) dc ⟨vb,0,none⟩ 1 vc A1 tb (nv.toList.take 3) 1 t24 z9 (by rw[hW];exact hg1) (by simp only[Nat.min_def];split<;>omega) hvl
   (fun j v hj=>by
    rw[Addr.add_lit,Nat.zero_add];simp only[World.cell?,hW,hv2];rw[qm]at hj
    split at hj
    ·simpa using hj
    ·cases hj) (by rw[hvl];omega) (fun v hv=>hv1 v (qn hv))
  exact h0
 rw[<-hA1]at hcp1;rw[<-hcs1,<-hA1];have mixed:=hm
 go_enter Tryz.func142,Tryz.ntmps142
 go_wp2_with (simp only[hov])
 go_region_law_o (refine step_copy_runI rfl _ _ 36 36 rfl _ _ (by simp[Act.eval,Act.put]) (by simp[Act.eval,Act.put]) (hcp1 _ _ _) ?_)
 go_wp2_with (at_builtin;refine wpList_copy_runI _ rfl _ _ 36 36 rfl _ _ rfl rfl (hcp2 _ rfl _ _) ?_)
 go_ret
 exact⟨rfl,by rw[hA1,hcs1]⟩
theorem Zi6{w:World}{vb vc:Nat}{nv:Array Value}{tv:TypeId}(hv:w.heap[vb]? = some (.cells nv tv (0,0)))(hvs:nv.size=vc*3)(hv1:∀v∈nv.toList,v.oneCell'=true)(hvc:1<=vc) :
  Go.Src Tryz.prog 3 36 (.slice (some ⟨vb,0,none⟩) 1 vc) 1 (nv.toList.take 3) w:=
 Go.Src.ofSlice (w:=w) Tryz.underlying36 ⟨vb,0,none⟩ 1 vc (nv.toList.take 3) (by simp;omega) (fun j u hj=>by
  rw[Addr.add_lit,Nat.zero_add];simp only[World.cell?,hv];rw[qm]at hj
  split at hj
  ·simpa using hj
  ·cases hj) (fun v hv=>hv1 v (qn hv))
set_option maxHeartbeats 4000000 in
set_option maxRecDepth 100000 in
theorem Zqd(b n c vb vc:Nat)(cur nv:Array Value)(tb tv:TypeId)(w:World)(hroom:n+1<=c)(hc63:c<=9223372036854775807)
  (hb:w.heap[b]? = some (.cells cur tb (0,0))) (hcs:cur.size=c*3)
  (hv:w.heap[vb]? = some (.cells nv tv (0,0))) (hvs:nv.size=vc*3) (hv1:∀v∈nv.toList,v.oneCell'=true) (hvc:1<=vc) :
  Calls Tryz.prog 142 #[.slice (some ⟨b,0,none⟩) n c,.int .i64 n,.slice (some ⟨vb,0,none⟩) 1 vc] w fun e w'=>
   e = .returned (.slice (some ⟨b,0,none⟩) (n+1) c)∧w'=w.setCells b (n*3) (nv.toList.take 3):=by
 have t3:=Tryz.underlying3;have a3:=Tryz.isAgg3;have z3:=Tryz.sizeOf3;have v3:=Tryz.zeroValue3;have t4:=Tryz.underlying4;have a4:=Tryz.isAgg4;have z4:=Tryz.sizeOf4;have v4:=Tryz.zeroValue4;have t9:=Tryz.underlying109;have a9:=Tryz.isAgg109;have z9:=Tryz.sizeOf109;have v9:=Tryz.zeroValue109;have t24:=Tryz.underlying36;have a24:=Tryz.isAgg36;have z24:=Tryz.sizeOf36;have v24:=Tryz.zeroValue36;have u3:=run_underlying t3;have u4:=run_underlying t4;have u9:=run_underlying t9;have u24:=run_underlying t24;have mixed:=hm;obtain⟨i0,hi0,hz0,hzs,hzb⟩:=info_parts (show(Tryz.prog.info? 109).map (fun i=>(i.zero,i.size,i.bytes))=some (some (.agg #[.int .i64 0,.string ⟨#[]⟩,.string ⟨#[]⟩]),3,40)from by kernel_rfl);have hvl:(nv.toList.take 3).length=3:=by simp;omega
 have hsrc:=Zi6 hv hvs hv1 hvc;have hrun:∀ty,(Builtin.append_ #[36,36] ty #[.slice (some ⟨b,0,none⟩) n c,.slice (some ⟨vb,0,none⟩) 1 vc]).run Tryz.prog w = .ok (.slice (some ⟨b,0,none⟩) (n+1) c) (w.setCells b (n*3) (nv.toList.take 3)):=fun ty=>by
  have h0:=run_append_room_src (P:=Tryz.prog) (w:=w) 36 36 ty 109 i0 t24 hi0 b 0 n c (.slice (some ⟨vb,0,none⟩) 1 vc) 1 (nv.toList.take 3) (by rw[hzs];exact hsrc) hroom
   (fun j hj=>by
    rw[hzs];have h1:n*3+j<cur.size:=by omega
    simp only[World.cell?,hb,Nat.zero_add];simp[h1]) (fun j hj=>by simp[World.frozen?,hb])
  rw[hzs,Nat.zero_add]at h0;exact h0
 go_enter Tryz.func142,Tryz.ntmps142
 go_wp2_with (at_builtin;refine Lib.wpList_append_run _ rfl _ _ _ _ rfl _ _ rfl rfl _ _ (hrun _) ?_)
 go_ret
 exact⟨rfl,rfl⟩
set_option maxHeartbeats 4000000 in
set_option maxRecDepth 100000 in
theorem Zf1(base:Option Addr)(n c vb vc:Nat)(olds:List Value)(nv:Array Value)(tv:TypeId)(w:World)(hnc:n<=c)(hroom:c<n+1)(hbig:(n+1)*40<=140737488355328)
  (hold:(Builtin.firstCells 3 n (.slice base n c)).run Tryz.prog w.drew = .ok olds.toArray w.drew) (hnil:base=none->n=0)
  (hv:w.heap[vb]? = some (.cells nv tv (0,0))) (hvs:nv.size=vc*3) (hv1:∀v∈nv.toList,v.oneCell'=true) (hvc:1<=vc) :
  Calls Tryz.prog 142 #[.slice base n c,.int .i64 n,.slice (some ⟨vb,0,none⟩) 1 vc] w fun e w'=>
   e = .returned (.slice (some ⟨w.heap.size,0,none⟩) (n+1) (grownCap w (n+1) c 109))∧
   w'=w.drew.alloc (.cells ((olds++nv.toList.take 3).toArray++Builtin.zeroCells (Value.agg #[.int .i64 0,.string ⟨#[]⟩,.string ⟨#[]⟩]).cells (grownCap w (n+1) c 109-(n+1))) 109):=by
 have t3:=Tryz.underlying3;have a3:=Tryz.isAgg3;have z3:=Tryz.sizeOf3;have v3:=Tryz.zeroValue3;have t4:=Tryz.underlying4;have a4:=Tryz.isAgg4;have z4:=Tryz.sizeOf4;have v4:=Tryz.zeroValue4;have t9:=Tryz.underlying109;have a9:=Tryz.isAgg109;have z9:=Tryz.sizeOf109;have v9:=Tryz.zeroValue109;have t24:=Tryz.underlying36;have a24:=Tryz.isAgg36;have z24:=Tryz.sizeOf36;have v24:=Tryz.zeroValue36;have u3:=run_underlying t3;have u4:=run_underlying t4;have u9:=run_underlying t9;have u24:=run_underlying t24;have mixed:=hm;obtain⟨i0,hi0,hz0,hzs,hzb⟩:=info_parts (show(Tryz.prog.info? 109).map (fun i=>(i.zero,i.size,i.bytes))=some (some (.agg #[.int .i64 0,.string ⟨#[]⟩,.string ⟨#[]⟩]),3,40)from by kernel_rfl);have hsrc:=Zi6 hv hvs hv1 hvc;have hrun:∀ty,(Builtin.append_ #[36,36] ty #[.slice base n c,.slice (some ⟨vb,0,none⟩) 1 vc]).run Tryz.prog w=_:=fun ty=>
  run_append_grow_src (P:=Tryz.prog) (w:=w) 36 36 ty 109 i0 _ t24 hi0 hz0 base n c olds (by rw[hzs];exact hold) (.slice (some ⟨vb,0,none⟩) 1 vc) 1 (nv.toList.take 3) (by rw[hzs];exact hsrc) hroom (by omega) (by rw[hzb];exact growslice_fits hroom hbig)
 go_enter Tryz.func142,Tryz.ntmps142
 cases base with
 |none=>
  have h0:=hnil rfl;subst h0
  go_wp2_with (at_builtin;refine Lib.wpList_append_run _ rfl _ _ _ _ rfl _ _ rfl rfl _ _ (hrun _) ?_)
  go_ret
  exact⟨rfl,rfl⟩
 |some a=>
  obtain⟨ab,ao,asp⟩:=a
  go_wp2_with (at_builtin;refine Lib.wpList_append_run _ rfl _ _ _ _ rfl _ _ rfl rfl _ _ (hrun _) ?_)
  all_goals(go_ret;exact⟨rfl,rfl⟩)
set_option maxHeartbeats 4000000 in
set_option maxRecDepth 100000 in
theorem Zqe(b n c i vb vc:Nat)(cur nv:Array Value)(tb tv:TypeId)(w:World)(hi:i<n)(hnc:n<=c)(hroom:c<n+1)(hbig:(n+1)*40<=140737488355328)
  (hb:w.heap[b]? = some (.cells cur tb (0,0))) (hcs:cur.size=c*3) (hc1:∀v∈cur.toList,v.oneCell'=true)
  (hv:w.heap[vb]? = some (.cells nv tv (0,0))) (hvs:nv.size=vc*3) (hv1:∀v∈nv.toList,v.oneCell'=true) (hvc:1<=vc) :
  ∃G ROW W1,n+1<=G∧G<=maxLen∧ROW=(cur.toList.take (i*3)).toArray++Builtin.zeroCells (Value.agg #[.int .i64 0,.string ⟨#[]⟩,.string ⟨#[]⟩]).cells (n+1-i)++Builtin.zeroCells (Value.agg #[.int .i64 0,.string ⟨#[]⟩,.string ⟨#[]⟩]).cells (G-(n+1))∧W1=w.drew.alloc (.cells ROW 109)∧
  Calls Tryz.prog 142 #[.slice (some ⟨b,0,none⟩) n c,.int .i64 i,.slice (some ⟨vb,0,none⟩) 1 vc] w fun e w'=>
   e = .returned (.slice (some ⟨w.heap.size,0,none⟩) (n+1) G)∧w'=(((W1.setRow w.heap.size (putC ROW (i*3) (nv.toList.take 3)))).drew).setRow w.heap.size (putC (putC ROW (i*3) (nv.toList.take 3)) ((i+1)*3) ((cur.toList.drop (i*3)).take ((n-i)*3))):=by
 have t3:=Tryz.underlying3;have a3:=Tryz.isAgg3;have z3:=Tryz.sizeOf3;have v3:=Tryz.zeroValue3;have t4:=Tryz.underlying4;have a4:=Tryz.isAgg4;have z4:=Tryz.sizeOf4;have v4:=Tryz.zeroValue4;have t9:=Tryz.underlying109;have a9:=Tryz.isAgg109;have z9:=Tryz.sizeOf109;have v9:=Tryz.zeroValue109;have t24:=Tryz.underlying36;have a24:=Tryz.isAgg36;have z24:=Tryz.sizeOf36;have v24:=Tryz.zeroValue36;have u3:=run_underlying t3;have u4:=run_underlying t4;have u9:=run_underlying t9;have u24:=run_underlying t24;have mixed:=hm;obtain⟨i0,hi0,hz0,hzs,hzb⟩:=info_parts (show(Tryz.prog.info? 109).map (fun i=>(i.zero,i.size,i.bytes))=some (some (.agg #[.int .i64 0,.string ⟨#[]⟩,.string ⟨#[]⟩]),3,40)from by kernel_rfl);have hbw:b<w.heap.size:=Z0e hb;have hvw:vb<w.heap.size:=Z0e hv;have hz2:¬((i:Int)=(n:Int)):=by omega
 have hz3:(c:Int)<(n:Int)+1:=by omega
 have hkk:(n:Int)+1-(i:Int)=((n+1-i:Nat):Int):=by omega
 have hik:i+(n+1-i)=n+1:=by omega
 have hcell:∀(o j:Nat) (v:Value),cur[o+j]? = some v->w.cell? ⟨b,o+j,none⟩=some v:=fun o j v h=>by
  simp only[World.cell?,hb];simpa using h
 have hold:(Builtin.firstCells i0.size i (.slice (some ⟨b,0,none⟩) i c)).run Tryz.prog w.drew = .ok (cur.toList.take (i*3)).toArray w.drew:=by
  rw[hzs];exact run_firstCells_some w.drew 3 i ⟨b,0,none⟩ i c (cur.toList.take (i*3)) (by rw[qq];simp;omega) (fun j v hj=>by
   rw[Addr.add_lit];rw[qm]at hj
   split at hj
   ·exact hcell 0 j v (by simpa using hj)
   ·cases hj)
 obtain⟨G,hG⟩:∃G,G=grownCap w (n+1) c 109:=⟨_,rfl⟩;obtain⟨ROW,hROW⟩:∃ROW:Array Value,ROW=(cur.toList.take (i*3)).toArray++Builtin.zeroCells (Value.agg #[.int .i64 0,.string ⟨#[]⟩,.string ⟨#[]⟩]).cells (n+1-i)++Builtin.zeroCells (Value.agg #[.int .i64 0,.string ⟨#[]⟩,.string ⟨#[]⟩]).cells (G-(n+1)):=⟨_,rfl⟩;have hrz:∀ty,(Builtin.append_ #[36,3] ty #[.slice (some ⟨b,0,none⟩) i c,.int .i64 ((n:Int)+1-(i:Int))]).run Tryz.prog w =
   .ok (.slice (some ⟨w.heap.size,0,none⟩) (n+1) G) (w.drew.alloc (.cells ROW 109)):=fun ty=>by
  have h:=Lib.run_append_grow_zeros (P:=Tryz.prog) w 36 3 ty 109 i0 _ .i64 .i64 t24 t3 hi0 hz0 (some ⟨b,0,none⟩) i c (cur.toList.take (i*3)) hold (n+1-i) (by omega) (by omega) (by omega) (by omega) (by rw[hzb];omega) (by rw[hzb,hik];exact growslice_fits hroom hbig);rw[hik]at h;rw[hkk,hROW,hG];exact h
 have hGn:n+1<=G:=by rw[hG];exact grownCap_ge w _ _ _
 have hGm:G<=maxLen:=by rw[hG];exact grownCap_le_maxLen w (n+1) c 109 (by unfold maxLen;omega)
 have hG63:G<=9223372036854775807:=by unfold maxLen at hGm;omega
 have hRl:ROW.size=G*3:=by
  rw[hROW];simp[Builtin.zeroCells,Value.cells];omega
 obtain⟨W1,hW1⟩:∃W1,W1=w.drew.alloc (.cells ROW 109):=⟨_,rfl⟩;refine⟨G,ROW,W1,hGn,hGm,hROW,hW1,?_⟩;rw[<-hW1]at hrz;have hN1:W1.heap[w.heap.size]? = some (.cells ROW 109 (0,0)):=by rw[hW1];exact Z0g w.drew _
 have hB1:W1.heap[b]? = some (.cells cur tb (0,0)):=by rw[hW1];exact(Z12 w.drew _ b hbw).trans hb
 have hV1:W1.heap[vb]? = some (.cells nv tv (0,0)):=by rw[hW1];exact(Z12 w.drew _ vb hvw).trans hv
 have hvl:(nv.toList.take 3).length=1*3:=by simp;omega
 have hcpA:∀(W:World),W.heap=W1.heap->∀ty dc,(Builtin.copy_ #[36,36] ty #[.slice (some ⟨w.heap.size,i*3,none⟩) (n+1-i) dc,.slice (some ⟨vb,0,none⟩) 1 vc]).run Tryz.prog W = .ok (goInt ((1:Nat):Int)) (W.setRow w.heap.size (putC ROW (i*3) (nv.toList.take 3))):=fun W hW ty dc=>by
  have h0:=Z1j (P:=Tryz.prog) 3 W 36 36 ty 109 w.heap.size (i*3) (n+1-i) dc ⟨vb,0,none⟩ 1 vc ROW 109 (nv.toList.take 3) 1 t24 z9 (by rw[hW];exact hN1) (by simp only[Nat.min_def];split<;>omega) hvl
   (fun j v hj=>by
    rw[Addr.add_lit,Nat.zero_add];simp only[World.cell?,hW,hV1];rw[qm]at hj
    split at hj
    ·simpa using hj
    ·cases hj) (by rw[hvl];omega) (fun v hv=>hv1 v (qn hv))
  exact h0
 obtain⟨A1,hA1⟩:∃A1,A1=putC ROW (i*3) (nv.toList.take 3):=⟨_,rfl⟩;have hA1s:A1.size=ROW.size:=by rw[hA1,Z0n (by rw[hvl];omega)]
 obtain⟨cs,hcs1⟩:∃cs,cs=(cur.toList.drop (i*3)).take ((n-i)*3):=⟨_,rfl⟩;have hcl:cs.length=(n-i)*3:=by rw[hcs1];simp;omega
 have hcg:∀j v,cs[j]? = some v->cur[i*3+j]? = some v:=fun j v hj=>by
  rw[hcs1,qm]at hj
  split at hj
  ·rw[qA]at hj;simpa using hj
  ·cases hj
 have hcm:∀v∈cs,v.oneCell'=true:=fun v hv=>by rw[hcs1]at hv;exact hc1 v (List.mem_of_mem_drop (qn hv))
 have hN2:(W1.setRow w.heap.size A1).heap[w.heap.size]? = some (.cells A1 109 (0,0)):=setRow_heap W1 w.heap.size ROW _ 109 _ hN1;have hB2:(W1.setRow w.heap.size A1).heap[b]? = some (.cells cur tb (0,0)):=by
  show(W1.heap.modify w.heap.size _)[b]? = _
  rw[qP,qJ (by omega)];exact hB1
 have hcpB:∀(W:World),W.heap=(W1.setRow w.heap.size A1).heap->∀ty dc sc,(Builtin.copy_ #[36,36] ty #[.slice (some ⟨w.heap.size,(i+1)*3,none⟩) (n-i) dc,.slice (some ⟨b,i*3,none⟩) (n-i) sc]).run Tryz.prog W = .ok (goInt ((n-i:Nat):Int)) (W.setRow w.heap.size (putC A1 ((i+1)*3) cs)):=fun W hW ty dc sc=>by
  have h0:=Z1j (P:=Tryz.prog) 3 W 36 36 ty 109 w.heap.size ((i+1)*3) (n-i) dc ⟨b,i*3,none⟩ (n-i) sc A1 109 cs (n-i) t24 z9 (by rw[hW];exact hN2) (by simp only[Nat.min_def];split<;>omega) hcl
   (fun j v hj=>by
    have h:=hcg j v hj;rw[Addr.add_lit];simp only[World.cell?,hW,hB2];simpa using h) (by rw[hcl];omega) hcm
  exact h0
 have hw1:IntKind.i64.wrap ((i:Int)+1)=(i:Int)+1:=by rw[IntKind.wrap_i64];omega
 have hw2:IntKind.i64.wrap ((n:Int)+1)=(n:Int)+1:=by rw[IntKind.wrap_i64];omega
 have hw3:IntKind.i64.wrap ((n:Int)+1-(i:Int))=(n:Int)+1-(i:Int):=by rw[IntKind.wrap_i64];omega
 have hb1:(0:Int)<=(i:Int)+1:=by omega
 have hin:i<=n:=by omega
 have htn:((i:Int)+1).toNat=i+1:=by omega
 have hb3:(i:Int)<=(n:Int):=by omega
 have hGi:¬(G=i):=by omega
 have hGim:¬(G=i+1):=by omega
 have hci:¬(c=i):=by omega
 rw[<-hA1]at hcpA;rw[<-hA1,<-hcs1];clear hkk hik hold hROW hG hW1 hcs1 hA1
 go_enter Tryz.func142,Tryz.ntmps142
 go_wp2_with (first
  |(at_builtin;refine Lib.wpList_append_run _ rfl _ _ _ _ rfl _ _ rfl rfl _ _ (hrz _) ?_)
  |(at_builtin;refine wpList_copy_runI _ rfl _ _ 36 36 rfl _ _ rfl rfl (hcpA _ rfl _ _) ?_))
 go_region_law_o (refine step_copy_runI rfl _ _ 36 36 rfl (.slice (some ⟨w.heap.size,(i+1)*3,none⟩) (n-i) (G-(i+1))) (.slice (some ⟨b,i*3,none⟩) (n-i) (c-i)) (by simp[Act.eval,Act.put]) (by simp[Act.eval,Act.put]) (hcpB (W1.setRow w.heap.size A1).drew rfl 3 (G-(i+1)) (c-i)) ?_)
 go_wp2
 go_ret
 exact⟨rfl,rfl⟩
theorem Z7z(m:Nat):∀v∈(Builtin.zeroCells (Value.agg #[.int .i64 0,.string ⟨#[]⟩,.string ⟨#[]⟩]).cells m).toList,v.oneCell'=true:=by
 intro v hv;obtain⟨j,hj,rfl⟩:=qp hv;have h3:j%3=0∨j%3=1∨j%3=2:=by omega
 simp only[Builtin.zeroCells,Value.cells,Array.toList_map,List.getElem_map,Array.toList_range,List.getElem_range];show(#[Value.int .i64 0,.string ⟨#[]⟩,.string ⟨#[]⟩][j%3]!).oneCell'=true
 rcases h3 with h|h|h<;>rw[h]<;>rfl
theorem Zj1(m:Nat):(Builtin.zeroCells (Value.agg #[.int .i64 0,.string ⟨#[]⟩,.string ⟨#[]⟩]).cells m).size=m*3:=by simp[Builtin.zeroCells,Value.cells]
theorem Z3u{nv:Array Value}{m y:Nat}(h:y<m):(nv.toList.take m).getD y undef=nv.getD y undef:=by
 simp only[List.getD,qb];rw[List.getElem?_take_of_lt h,Array.getElem?_toList]
theorem Zg2{cur:Array Value}{a m y:Nat}(h:y<m):((cur.toList.drop a).take m).getD y undef=cur.getD (a+y) undef:=by
 simp only[List.getD,qb];rw[List.getElem?_take_of_lt h,qA,Array.getElem?_toList]
set_option maxHeartbeats 1000000 in
theorem Zmr{l:List Key}{i:Nat}{x:Key}{g:Nat->List PV}(hil:i<=l.length)(hln:l.length<=1048576)(hgx:PSubs (g 0) (cKey x)) :
  AC Tryz.prog 142 [.own 0,.pv (vint i),.own 2] [(0,rowL 3 cKey l),(2,.row 3 1 g)] (.own 1) [(1,rowL 3 cKey (insL l i x)),(0,.gone)]:=by
 refine⟨Tryz.call142,fun St M0 σ w vals hi hσ hos hsz hA=>?_⟩;obtain⟨loc0,hl0,hor⟩:=hos 0 _ (by simp[getO];rfl);obtain⟨loc2,hl2,hor2⟩:=hos 2 (.row 3 1 g) (by simp[getO]);have h1:σ 1=none:=hσ 1 (by simp[getO]);have hv0:=Z0l (hA 0 (.own 0) rfl) hl0;have hv1:=pr_val (arg_pv (hA 1 (.pv (vint i)) rfl));have hv2:=Z0l (hA 2 (.own 2) rfl) hl2;have hvals:vals=#[vals.getD 0 undef,vals.getD 1 undef,vals.getD 2 undef]:=by
  have hs2:vals.size=3:=hsz;apply Array.ext
  ·simpa using hs2
  ·intro i h2 h3;have:i=0∨i=1∨i=2:=by omega
   rcases this with rfl|rfl|rfl<;>simp[Array.getD,hs2]
 rw[hvals,hv0,hv1,hv2];generalize hk1:(1:Nat)=n1 at hor2;cases hor2 with
 |row0 _ _ a=>cases hk1
 |row _ _ _ b2 cap2 nv tv hb2 hn2 hmax2 hsz2 hs2 hh2 hone2=>
 subst hk1;have hnv1:∀v∈nv.toList,v.oneCell'=true:=fun v hv=>by
  obtain⟨j,hj,rfl⟩:=qp hv;have:=hone2 j (by simpa using hj);simpa[Array.getD,show j<nv.size from by simpa using hj]using this
 have hnew:∀q p,(g 0)[q]? = some p->PR w (Mof M0 σ) p (nv.getD q undef):=fun q p e=>by
  have:=hh2 0 (by omega) q p e;rwa[Nat.zero_mul,Nat.zero_add]at this
 have hnl:(nv.toList.take 3).length=3:=by simp;omega
 have hnm:∀v∈nv.toList.take 3,v.oneCell'=true:=fun v hv=>hnv1 v (qn hv)
 change OR _ _ _ _ _ (.row 3 l.length fun j=>cKey (l.getD j default)) loc0 at hor;generalize hn0:l.length=n0 at hor;have hml:n0+1<=maxLen:=by unfold maxLen;omega
 cases hor with
 |row0 _ _ a=>
  have hi0:i=0:=by omega
  subst hi0;refine(Zf1 a 0 0 b2 cap2 [] nv tv w (by omega) (by omega) (by omega) (by
   cases a with
   |none=>exact run_firstCells_none w.drew 3 0 0 0
   |some ad=>exact run_firstCells_some w.drew 3 0 ad 0 0 [] rfl (fun j v hj=>by simp at hj)) (fun _=>rfl) hb2 hsz2 hnv1 hn2).mono (fun e w' h=>?_)
  obtain⟨rfl,rfl⟩:=h;have hge:=grownCap_ge w (0+1) 0 109;have hp:=Z4k (P:=Tryz.prog) (x:=x) (g:=g) (enc:=cKey) (k:=3) (cur:=#[]) (nv:=nv) (A:=(([]++nv.toList.take 3).toArray++Builtin.zeroCells (Value.agg #[.int .i64 0,.string ⟨#[]⟩,.string ⟨#[]⟩]).cells (grownCap w (0+1) 0 109-(0+1)))) (t':=109) (c':=grownCap w (0+1) 0 109) hi h1 hl0 hil (.inr (qL _)) (drew_ext.trans (Z2e _ _)) (Z0g w.drew _) (by rw[hn0];exact hge) (grownCap_le_maxLen w _ _ _ hml) (by rw[Array.size_append,List.size_toArray,List.nil_append,hnl,Zj1];omega) (fun v hv=>?_) (fun _=>rfl) hgx (fun j hj=>by omega) hnew (fun y hy=>?_)
  ·rw[hn0]at hp;exact⟨_,_,rfl,hp⟩
  ·simp only[Array.toList_append,qo,List.nil_append]at hv;rcases hv with hv|hv
   ·exact hnm v hv
   ·exact Z7z _ v hv
  ·rw[hn0]at hy;rw[qJ (by omega),qK (by omega),Z0b (by rw[List.size_toArray,List.nil_append,hnl];omega),Nat.zero_mul,Nat.sub_zero,Z2r,List.nil_append,Z3u (m:=3) (by omega)]
 |row _ _ _ b cap vs tb hb hn hmax hsz' hs hh hone=>
  have hc1:∀v∈vs.toList,v.oneCell'=true:=fun v hv=>by
   obtain⟨j,hj,rfl⟩:=qp hv;have:=hone j (by simpa using hj);simpa[Array.getD,show j<vs.size from by simpa using hj]using this
  have hne:b2≠b:=fun e=>by
   subst e;have:=hi.sep 0 2 _ _ b2 hl0 hl2 rfl rfl;cases this
  subst hn0;have hc63:cap<=9223372036854775807:=by unfold maxLen at hmax;omega
  have fin:=fun(w':World) (b' c':Nat) (A:Array Value) (t':TypeId) (hb') (hx) (hA) (hn') (hm') (hz) (ho) (hg)=>Z4k (P:=Tryz.prog) (w':=w') (b':=b') (c':=c') (A:=A) (t':=t') (x:=x) (g:=g) (enc:=cKey) (k:=3) (cur:=vs) (nv:=nv) hi h1 hl0 hil hb' hx hA hn' hm' hz ho (fun _=>rfl) hgx (fun j hj q p e=>hh j hj q p e) hnew hg
  by_cases hin:i=l.length
  ·subst hin
   by_cases hroom:l.length+1<=cap
   ·refine(Zqd b l.length cap b2 cap2 vs nv tb tv w hroom hc63 hb hsz' hb2 hsz2 hnv1 hn2).mono (fun e w' h=>?_);obtain⟨rfl,rfl⟩:=h;rw[Zb3 (P:=Tryz.prog) hb (by rw[hnl];omega) hnm];refine⟨_,_,rfl,fin _ b cap (putC vs (l.length*3) (nv.toList.take 3)) tb (.inl rfl) (setRow_ext.mono fun c _ h=>by rw[h]) (setRow_heap w b vs _ tb _ hb) hroom hmax (by rw[Z0n (by rw[hnl];omega)];exact hsz') (Z18 hc1 hnm) (fun y hy=>?_)⟩;rw[Z17 (by rw[hnl];omega),hnl]
    by_cases hy1:y<l.length*3
    ·rw[qJ (by omega),qK hy1]
    ·rw[qK (by omega),qJ hy1,qK (by omega),Z3u (by omega)]
   ·refine(Zf1 (some ⟨b,0,none⟩) l.length cap b2 cap2 (vs.toList.take (l.length*3)) nv tv w hn (by omega) (by omega) (run_firstCells_some w.drew 3 l.length ⟨b,0,none⟩ l.length cap _ (by simp;omega) (fun j v hj=>?_)) (fun h=>by cases h) hb2 hsz2 hnv1 hn2).mono (fun e w' h=>?_)
    ·rw[Addr.add_lit,Nat.zero_add];rw[qm]at hj
     split at hj
     ·show w.cell? _=_
      simp only[World.cell?,hb];simpa using hj
     ·cases hj
    obtain⟨rfl,rfl⟩:=h;have htl:(vs.toList.take (l.length*3)).length=l.length*3:=by simp;omega
    have hge:=grownCap_ge w (l.length+1) cap 109;refine⟨_,_,rfl,fin _ w.heap.size (grownCap w (l.length+1) cap 109) _ 109 (.inr (qL _)) (drew_ext.trans (Z2e _ _)) (Z0g w.drew _) hge (grownCap_le_maxLen w _ _ _ hml) (by rw[Array.size_append,List.size_toArray,ql,hnl,htl,Zj1];omega) (fun v hv=>?_) (fun y hy=>?_)⟩
    ·simp only[Array.toList_append,qo]at hv;rcases hv with(hv|hv)|hv
     ·exact hc1 v (qn hv)
     ·exact hnm v hv
     ·exact Z7z _ v hv
    ·rw[Z0b (by rw[List.size_toArray,ql,hnl,htl];omega),Z2r]
     by_cases hy1:y<l.length*3
     ·rw[qK hy1,Za6 (by rw[htl];exact hy1),Z3u hy1]
     ·rw[qJ hy1,qK (by omega),Z9q (by rw[htl];omega),htl,Z3u (by omega)]
  ·have hcl:((vs.toList.drop (i*3)).take ((l.length-i)*3)).length=(l.length-i)*3:=by simp;omega
   have hcm:∀v∈(vs.toList.drop (i*3)).take ((l.length-i)*3),v.oneCell'=true:=fun v hv=>hc1 v (List.mem_of_mem_drop (qn hv))
   by_cases hroom:l.length+1<=cap
   ·refine(Zqf b l.length cap i b2 cap2 vs nv tb tv w (by omega) hroom hc63 hne hb hsz' hc1 hb2 hsz2 hnv1 hn2).mono (fun e w' h=>?_);obtain⟨rfl,rfl⟩:=h;have hs1:(putC vs ((i+1)*3) ((vs.toList.drop (i*3)).take ((l.length-i)*3))).size=vs.size:=Z0n (by rw[hcl];omega);refine⟨_,_,rfl,fin _ b cap _ tb (.inl rfl) ((drew_ext.trans setRow_ext).trans setRow_ext |>.mono fun c _ h=>by rw[h]) (setRow_heap _ b _ _ tb _ (setRow_heap w.drew b vs _ tb _ hb)) hroom hmax (by rw[Z0n (by rw[hs1,hnl];omega),hs1];exact hsz') (Z18 (Z18 hc1 hcm) hnm) (fun y hy=>?_)⟩;rw[Z17 (by rw[hs1,hnl];omega),hnl,Z17 (by rw[hcl];omega),hcl]
    by_cases hy1:y<i*3
    ·rw[qJ (by omega),qJ (by omega),qK hy1]
    ·rw[qJ hy1]
     by_cases hy2:y<(i+1)*3
     ·rw[qK (by omega),qK hy2,Z3u (by omega)]
     ·rw[qJ (by omega),qK (by omega),qJ hy2,Zg2 (by omega)];congr 1;omega
   ·obtain⟨G,ROW,W1,hG1,hG2,hROW,hW1,hcalls⟩:=Zqe b l.length cap i b2 cap2 vs nv tb tv w (by omega) hn (by omega) (by omega) hb hsz' hc1 hb2 hsz2 hnv1 hn2;refine hcalls.mono (fun e w' h=>?_);obtain⟨rfl,rfl⟩:=h;have hRs:ROW.size=G*3:=by rw[hROW];simp[Builtin.zeroCells,Value.cells];omega
    have hRo:∀v∈ROW.toList,v.oneCell'=true:=fun v hv=>by
     rw[hROW]at hv;simp only[Array.toList_append,qo]at hv;rcases hv with(hv|hv)|hv
     ·exact hc1 v (qn hv)
     ·exact Z7z _ v hv
     ·exact Z7z _ v hv
    have hRg:∀y,y<i*3->ROW.getD y undef=vs.getD y undef:=fun y hy=>by
     rw[hROW,Array.append_assoc,Z0b (by simp;omega),Z2r,Z3u hy]
    have hN1:W1.heap[w.heap.size]? = some (.cells ROW 109 (0,0)):=by rw[hW1];exact Z0g w.drew _
    have hs1:(putC ROW (i*3) (nv.toList.take 3)).size=ROW.size:=Z0n (by rw[hnl];omega);have hN2:=setRow_heap W1 w.heap.size ROW (putC ROW (i*3) (nv.toList.take 3)) 109 _ hN1;refine⟨_,_,rfl,fin _ w.heap.size G _ 109 (.inr (qL _)) ?_ (setRow_heap _ w.heap.size _ _ 109 _ hN2) hG1 hG2 (by rw[Z0n (by rw[hs1,hcl];omega),hs1];exact hRs) (Z18 (Z18 hRo hnm) hcm) (fun y hy=>?_)⟩
    ·have e1:FExt (fun b=>b=w.heap.size) w W1:=by rw[hW1];exact drew_ext.trans (Z2e _ _)
     have e2:=((e1.trans (setRow_ext (A:=putC ROW (i*3) (nv.toList.take 3)))).trans drew_ext).trans (setRow_ext (A:=putC (putC ROW (i*3) (nv.toList.take 3)) ((i+1)*3) ((vs.toList.drop (i*3)).take ((l.length-i)*3))));exact e2.mono fun c hc h=>absurd h (by omega)
    ·rw[Z17 (by rw[hs1,hcl];omega),hcl,Z17 (by rw[hnl];omega),hnl]
     by_cases hy1:y<i*3
     ·rw[qJ (by omega),qJ (by omega),qK hy1,hRg y hy1]
     ·rw[qJ hy1]
      by_cases hy2:y<(i+1)*3
      ·rw[qJ (by omega),qK (by omega),qK hy2,Z3u (by omega)]
      ·rw[qK (by omega),qJ hy2,Zg2 (by omega)];congr 1;omega
set_option maxHeartbeats 4000000 in
set_option maxRecDepth 100000 in
theorem Zqo(b n c i vb vc:Nat)(cur nv:Array Value)(tb tv:TypeId)(w:World)(hi:i<n)(hroom:n+1<=c)(hc63:c<=9223372036854775807)(hvb:vb≠b)
  (hb:w.heap[b]? = some (.cells cur tb (0,0))) (hcs:cur.size=c*1) (hc1:∀v∈cur.toList,v.oneCell'=true)
  (hv:w.heap[vb]? = some (.cells nv tv (0,0))) (hvs:nv.size=vc*1) (hv1:∀v∈nv.toList,v.oneCell'=true) (hvc:1<=vc) :
  Calls Tryz.prog 143 #[.slice (some ⟨b,0,none⟩) n c,.int .i64 i,.slice (some ⟨vb,0,none⟩) 1 vc] w fun e w'=>
   e = .returned (.slice (some ⟨b,0,none⟩) (n+1) c)∧w'=(w.drew.setRow b (putC cur ((i+1)*1) ((cur.toList.drop (i*1)).take ((n-i)*1)))).setRow b (putC (putC cur ((i+1)*1) ((cur.toList.drop (i*1)).take ((n-i)*1))) (i*1) (nv.toList.take 1)):=by
 have t3:=Tryz.underlying3;have a3:=Tryz.isAgg3;have z3:=Tryz.sizeOf3;have v3:=Tryz.zeroValue3;have t4:=Tryz.underlying4;have a4:=Tryz.isAgg4;have z4:=Tryz.sizeOf4;have v4:=Tryz.zeroValue4;have t9:=Tryz.underlying9;have a9:=Tryz.isAgg9;have z9:=Tryz.sizeOf9;have v9:=Tryz.zeroValue9;have t24:=Tryz.underlying26;have a24:=Tryz.isAgg26;have z24:=Tryz.sizeOf26;have v24:=Tryz.zeroValue26;have u3:=run_underlying t3;have u4:=run_underlying t4;have u9:=run_underlying t9;have u24:=run_underlying t24;have hz2:¬((i:Int)=(n:Int)):=by omega
 have hsv:w.shape? vb=some (tv,nv.size):=by simp[World.shape?,hv]
 have hsb:w.shape? b=some (tb,cur.size):=by simp[World.shape?,hb]
 have hov:∀lb cb,(callFunc 204 #[.slice (some ⟨vb,0,none⟩) 1 vc,.slice (some ⟨b,(i+1)*1,none⟩) lb cb]).run Tryz.prog w = .ok (.value (.bool false)) w:=fun lb cb=>by
  rw[run_callFunc_extern Tryz.func204 (by kernel_rfl) (by kernel_rfl) (by kernel_rfl) (e:=Extern.SlicesOverlaps.overlaps #[26,26] #[4]) (by kernel_rfl),
   Lib.run_overlaps_apart w 26 4 9 t24 1 z9 ⟨vb,0,none⟩ ⟨b,(i+1)*1,none⟩ 1 vc lb cb hvb tv tb nv.size cur.size hsv hsb (by omega) (by simp[World.frozen?,hv]) (by simp[World.frozen?,hv])]
  rfl
 have hw1:IntKind.i64.wrap ((i:Int)+1)=(i:Int)+1:=by rw[IntKind.wrap_i64];omega
 have hw2:IntKind.i64.wrap ((n:Int)+1)=(n:Int)+1:=by rw[IntKind.wrap_i64];omega
 have hb1:(0:Int)<=(i:Int)+1:=by omega
 have hin:i<=n:=by omega
 have htn:((i:Int)+1).toNat=i+1:=by omega
 have htn2:((n:Int)+1).toNat=n+1:=by omega
 have hb2:¬(c=i+1):=by omega
 have hb3:(i:Int)<=(n:Int)+1:=by omega
 have hb4:¬(c=i):=by omega
 have hnc:¬((c:Int)<(n:Int)+1):=by omega
 obtain⟨cs,hcs1⟩:∃cs,cs=(cur.toList.drop (i*1)).take ((n-i)*1):=⟨_,rfl⟩;have hcl:cs.length=(n-i)*1:=by rw[hcs1];simp;omega
 have hcg:∀j v,cs[j]? = some v->cur[i*1+j]? = some v:=fun j v hj=>by
  rw[hcs1,qm]at hj
  split at hj
  ·rw[qA]at hj;simpa using hj
  ·cases hj
 have hcm:∀v∈cs,v.oneCell'=true:=fun v hv=>by rw[hcs1]at hv;exact hc1 v (List.mem_of_mem_drop (qn hv))
 have hcp1:∀ty dc sc,(Builtin.copy_ #[26,26] ty #[.slice (some ⟨b,(i+1)*1,none⟩) (n-i) dc,.slice (some ⟨b,i*1,none⟩) (n+1-i) sc]).run Tryz.prog w.drew = .ok (goInt ((n-i:Nat):Int)) (w.drew.setRow b (putC cur ((i+1)*1) cs)):=fun ty dc sc=>by
  have h0:=Z1j (P:=Tryz.prog) 1 w.drew 26 26 ty 9 b ((i+1)*1) (n-i) dc ⟨b,i*1,none⟩ (n+1-i) sc cur tb cs (n-i) t24 z9 hb (by simp only[Nat.min_def];split<;>omega) hcl
   (fun j v hj=>by
    have h:=hcg j v hj;rw[Addr.add_lit];show w.cell? _=_
    simp only[World.cell?,hb];simpa using h) (by rw[hcl];omega) hcm
  exact h0
 obtain⟨A1,hA1⟩:∃A1,A1=putC cur ((i+1)*1) cs:=⟨_,rfl⟩;have hA1s:A1.size=cur.size:=by rw[hA1,Z0n (by rw[hcl];omega)]
 have hg1:(w.drew.setRow b A1).heap[b]? = some (.cells A1 tb (0,0)):=setRow_heap w.drew b cur _ tb _ hb;have hv2:(w.drew.setRow b A1).heap[vb]? = some (.cells nv tv (0,0)):=by
  show(w.drew.heap.modify b _)[vb]? = _
  rw[qP,qJ (Ne.symm hvb)];exact hv
 have hvl:(nv.toList.take 1).length=1*1:=by simp;omega
 have hcp2:∀(W:World),W.heap=(w.drew.setRow b A1).heap->∀ty dc,(Builtin.copy_ #[26,26] ty #[.slice (some ⟨b,i*1,none⟩) (n+1-i) dc,.slice (some ⟨vb,0,none⟩) 1 vc]).run Tryz.prog W = .ok (goInt ((1:Nat):Int)) (W.setRow b (putC A1 (i*1) (nv.toList.take 1))):=fun W hW ty dc=>by
  have h0:=Z1j (P:=Tryz.prog) 1 W 26 26 ty 9 b (i*1) (n+1-i) dc ⟨vb,0,none⟩ 1 vc A1 tb (nv.toList.take 1) 1 t24 z9 (by rw[hW];exact hg1) (by simp only[Nat.min_def];split<;>omega) hvl
   (fun j v hj=>by
    rw[Addr.add_lit,Nat.zero_add];simp only[World.cell?,hW,hv2];rw[qm]at hj
    split at hj
    ·simpa using hj
    ·cases hj) (by rw[hvl];omega) (fun v hv=>hv1 v (qn hv))
  exact h0
 rw[<-hA1]at hcp1;rw[<-hcs1,<-hA1];have mixed:=hm;simp only[Nat.mul_one]at *
 go_enter Tryz.func143,Tryz.ntmps143
 go_wp2_with (simp only[hov])
 go_region_law_o (refine step_copy_runI rfl _ _ 26 26 rfl _ _ (by simp[Act.eval,Act.put]) (by simp[Act.eval,Act.put]) (hcp1 _ _ _) ?_)
 go_wp2_with (at_builtin;refine wpList_copy_runI _ rfl _ _ 26 26 rfl _ _ rfl rfl (hcp2 _ rfl _ _) ?_)
 go_ret
 exact⟨rfl,by rw[hA1,hcs1]⟩
theorem Zi7{w:World}{vb vc:Nat}{nv:Array Value}{tv:TypeId}(hv:w.heap[vb]? = some (.cells nv tv (0,0)))(hvs:nv.size=vc*1)(hv1:∀v∈nv.toList,v.oneCell'=true)(hvc:1<=vc) :
  Go.Src Tryz.prog 1 26 (.slice (some ⟨vb,0,none⟩) 1 vc) 1 (nv.toList.take 1) w:=
 Go.Src.ofSlice (w:=w) Tryz.underlying26 ⟨vb,0,none⟩ 1 vc (nv.toList.take 1) (by simp;omega) (fun j u hj=>by
  rw[Addr.add_lit,Nat.zero_add];simp only[World.cell?,hv];rw[qm]at hj
  split at hj
  ·simpa using hj
  ·cases hj) (fun v hv=>hv1 v (qn hv))
set_option maxHeartbeats 4000000 in
set_option maxRecDepth 100000 in
theorem Zqm(b n c vb vc:Nat)(cur nv:Array Value)(tb tv:TypeId)(w:World)(hroom:n+1<=c)(hc63:c<=9223372036854775807)
  (hb:w.heap[b]? = some (.cells cur tb (0,0))) (hcs:cur.size=c*1)
  (hv:w.heap[vb]? = some (.cells nv tv (0,0))) (hvs:nv.size=vc*1) (hv1:∀v∈nv.toList,v.oneCell'=true) (hvc:1<=vc) :
  Calls Tryz.prog 143 #[.slice (some ⟨b,0,none⟩) n c,.int .i64 n,.slice (some ⟨vb,0,none⟩) 1 vc] w fun e w'=>
   e = .returned (.slice (some ⟨b,0,none⟩) (n+1) c)∧w'=w.setCells b (n*1) (nv.toList.take 1):=by
 have t3:=Tryz.underlying3;have a3:=Tryz.isAgg3;have z3:=Tryz.sizeOf3;have v3:=Tryz.zeroValue3;have t4:=Tryz.underlying4;have a4:=Tryz.isAgg4;have z4:=Tryz.sizeOf4;have v4:=Tryz.zeroValue4;have t9:=Tryz.underlying9;have a9:=Tryz.isAgg9;have z9:=Tryz.sizeOf9;have v9:=Tryz.zeroValue9;have t24:=Tryz.underlying26;have a24:=Tryz.isAgg26;have z24:=Tryz.sizeOf26;have v24:=Tryz.zeroValue26;have u3:=run_underlying t3;have u4:=run_underlying t4;have u9:=run_underlying t9;have u24:=run_underlying t24;have mixed:=hm;obtain⟨i0,hi0,hz0,hzs,hzb⟩:=info_parts (show(Tryz.prog.info? 9).map (fun i=>(i.zero,i.size,i.bytes))=some (some (.string ⟨#[]⟩),1,16)from by kernel_rfl);have hvl:(nv.toList.take 1).length=1:=by simp;omega
 have hsrc:=Zi7 hv hvs hv1 hvc;have hrun:∀ty,(Builtin.append_ #[26,26] ty #[.slice (some ⟨b,0,none⟩) n c,.slice (some ⟨vb,0,none⟩) 1 vc]).run Tryz.prog w = .ok (.slice (some ⟨b,0,none⟩) (n+1) c) (w.setCells b (n*1) (nv.toList.take 1)):=fun ty=>by
  have h0:=run_append_room_src (P:=Tryz.prog) (w:=w) 26 26 ty 9 i0 t24 hi0 b 0 n c (.slice (some ⟨vb,0,none⟩) 1 vc) 1 (nv.toList.take 1) (by rw[hzs];exact hsrc) hroom
   (fun j hj=>by
    rw[hzs];have h1:n*1+j<cur.size:=by omega
    simp only[World.cell?,hb,Nat.zero_add];simp;omega) (fun j hj=>by simp[World.frozen?,hb])
  rw[hzs,Nat.zero_add]at h0;exact h0
 simp only[Nat.mul_one]at *
 go_enter Tryz.func143,Tryz.ntmps143
 go_wp2_with (at_builtin;refine Lib.wpList_append_run _ rfl _ _ _ _ rfl _ _ rfl rfl _ _ (hrun _) ?_)
 go_ret
 exact⟨rfl,rfl⟩
set_option maxHeartbeats 4000000 in
set_option maxRecDepth 100000 in
theorem Zf8(base:Option Addr)(n c vb vc:Nat)(olds:List Value)(nv:Array Value)(tv:TypeId)(w:World)(hnc:n<=c)(hroom:c<n+1)(hbig:(n+1)*16<=140737488355328)
  (hold:(Builtin.firstCells 1 n (.slice base n c)).run Tryz.prog w.drew = .ok olds.toArray w.drew) (hnil:base=none->n=0)
  (hv:w.heap[vb]? = some (.cells nv tv (0,0))) (hvs:nv.size=vc*1) (hv1:∀v∈nv.toList,v.oneCell'=true) (hvc:1<=vc) :
  Calls Tryz.prog 143 #[.slice base n c,.int .i64 n,.slice (some ⟨vb,0,none⟩) 1 vc] w fun e w'=>
   e = .returned (.slice (some ⟨w.heap.size,0,none⟩) (n+1) (grownCap w (n+1) c 9))∧
   w'=w.drew.alloc (.cells ((olds++nv.toList.take 1).toArray++Builtin.zeroCells (Value.string ⟨#[]⟩).cells (grownCap w (n+1) c 9-(n+1))) 9):=by
 have t3:=Tryz.underlying3;have a3:=Tryz.isAgg3;have z3:=Tryz.sizeOf3;have v3:=Tryz.zeroValue3;have t4:=Tryz.underlying4;have a4:=Tryz.isAgg4;have z4:=Tryz.sizeOf4;have v4:=Tryz.zeroValue4;have t9:=Tryz.underlying9;have a9:=Tryz.isAgg9;have z9:=Tryz.sizeOf9;have v9:=Tryz.zeroValue9;have t24:=Tryz.underlying26;have a24:=Tryz.isAgg26;have z24:=Tryz.sizeOf26;have v24:=Tryz.zeroValue26;have u3:=run_underlying t3;have u4:=run_underlying t4;have u9:=run_underlying t9;have u24:=run_underlying t24;have mixed:=hm;obtain⟨i0,hi0,hz0,hzs,hzb⟩:=info_parts (show(Tryz.prog.info? 9).map (fun i=>(i.zero,i.size,i.bytes))=some (some (.string ⟨#[]⟩),1,16)from by kernel_rfl);have hsrc:=Zi7 hv hvs hv1 hvc;have hrun:∀ty,(Builtin.append_ #[26,26] ty #[.slice base n c,.slice (some ⟨vb,0,none⟩) 1 vc]).run Tryz.prog w=_:=fun ty=>
  run_append_grow_src (P:=Tryz.prog) (w:=w) 26 26 ty 9 i0 _ t24 hi0 hz0 base n c olds (by rw[hzs];exact hold) (.slice (some ⟨vb,0,none⟩) 1 vc) 1 (nv.toList.take 1) (by rw[hzs];exact hsrc) hroom (by omega) (by rw[hzb];exact growslice_fits hroom hbig)
 simp only[Nat.mul_one]at *
 go_enter Tryz.func143,Tryz.ntmps143
 cases base with
 |none=>
  have h0:=hnil rfl;subst h0
  go_wp2_with (at_builtin;refine Lib.wpList_append_run _ rfl _ _ _ _ rfl _ _ rfl rfl _ _ (hrun _) ?_)
  go_ret
  exact⟨rfl,rfl⟩
 |some a=>
  obtain⟨ab,ao,asp⟩:=a
  go_wp2_with (at_builtin;refine Lib.wpList_append_run _ rfl _ _ _ _ rfl _ _ rfl rfl _ _ (hrun _) ?_)
  all_goals(go_ret;exact⟨rfl,rfl⟩)
set_option maxHeartbeats 4000000 in
set_option maxRecDepth 100000 in
theorem Zqn(b n c i vb vc:Nat)(cur nv:Array Value)(tb tv:TypeId)(w:World)(hi:i<n)(hnc:n<=c)(hroom:c<n+1)(hbig:(n+1)*16<=140737488355328)
  (hb:w.heap[b]? = some (.cells cur tb (0,0))) (hcs:cur.size=c*1) (hc1:∀v∈cur.toList,v.oneCell'=true)
  (hv:w.heap[vb]? = some (.cells nv tv (0,0))) (hvs:nv.size=vc*1) (hv1:∀v∈nv.toList,v.oneCell'=true) (hvc:1<=vc) :
  ∃G ROW W1,n+1<=G∧G<=maxLen∧ROW=(cur.toList.take (i*1)).toArray++Builtin.zeroCells (Value.string ⟨#[]⟩).cells (n+1-i)++Builtin.zeroCells (Value.string ⟨#[]⟩).cells (G-(n+1))∧W1=w.drew.alloc (.cells ROW 9)∧
  Calls Tryz.prog 143 #[.slice (some ⟨b,0,none⟩) n c,.int .i64 i,.slice (some ⟨vb,0,none⟩) 1 vc] w fun e w'=>
   e = .returned (.slice (some ⟨w.heap.size,0,none⟩) (n+1) G)∧w'=(((W1.setRow w.heap.size (putC ROW (i*1) (nv.toList.take 1)))).drew).setRow w.heap.size (putC (putC ROW (i*1) (nv.toList.take 1)) ((i+1)*1) ((cur.toList.drop (i*1)).take ((n-i)*1))):=by
 have t3:=Tryz.underlying3;have a3:=Tryz.isAgg3;have z3:=Tryz.sizeOf3;have v3:=Tryz.zeroValue3;have t4:=Tryz.underlying4;have a4:=Tryz.isAgg4;have z4:=Tryz.sizeOf4;have v4:=Tryz.zeroValue4;have t9:=Tryz.underlying9;have a9:=Tryz.isAgg9;have z9:=Tryz.sizeOf9;have v9:=Tryz.zeroValue9;have t24:=Tryz.underlying26;have a24:=Tryz.isAgg26;have z24:=Tryz.sizeOf26;have v24:=Tryz.zeroValue26;have u3:=run_underlying t3;have u4:=run_underlying t4;have u9:=run_underlying t9;have u24:=run_underlying t24;have mixed:=hm;obtain⟨i0,hi0,hz0,hzs,hzb⟩:=info_parts (show(Tryz.prog.info? 9).map (fun i=>(i.zero,i.size,i.bytes))=some (some (.string ⟨#[]⟩),1,16)from by kernel_rfl);have hbw:b<w.heap.size:=Z0e hb;have hvw:vb<w.heap.size:=Z0e hv;have hz2:¬((i:Int)=(n:Int)):=by omega
 have hz3:(c:Int)<(n:Int)+1:=by omega
 have hkk:(n:Int)+1-(i:Int)=((n+1-i:Nat):Int):=by omega
 have hik:i+(n+1-i)=n+1:=by omega
 have hcell:∀(o j:Nat) (v:Value),cur[o+j]? = some v->w.cell? ⟨b,o+j,none⟩=some v:=fun o j v h=>by
  simp only[World.cell?,hb];simpa using h
 have hold:(Builtin.firstCells i0.size i (.slice (some ⟨b,0,none⟩) i c)).run Tryz.prog w.drew = .ok (cur.toList.take (i*1)).toArray w.drew:=by
  rw[hzs];exact run_firstCells_some w.drew 1 i ⟨b,0,none⟩ i c (cur.toList.take (i*1)) (by rw[qq];simp;omega) (fun j v hj=>by
   rw[Addr.add_lit];rw[qm]at hj
   split at hj
   ·exact hcell 0 j v (by simpa using hj)
   ·cases hj)
 obtain⟨G,hG⟩:∃G,G=grownCap w (n+1) c 9:=⟨_,rfl⟩;obtain⟨ROW,hROW⟩:∃ROW:Array Value,ROW=(cur.toList.take (i*1)).toArray++Builtin.zeroCells (Value.string ⟨#[]⟩).cells (n+1-i)++Builtin.zeroCells (Value.string ⟨#[]⟩).cells (G-(n+1)):=⟨_,rfl⟩;have hrz:∀ty,(Builtin.append_ #[26,3] ty #[.slice (some ⟨b,0,none⟩) i c,.int .i64 ((n:Int)+1-(i:Int))]).run Tryz.prog w =
   .ok (.slice (some ⟨w.heap.size,0,none⟩) (n+1) G) (w.drew.alloc (.cells ROW 9)):=fun ty=>by
  have h:=Lib.run_append_grow_zeros (P:=Tryz.prog) w 26 3 ty 9 i0 _ .i64 .i64 t24 t3 hi0 hz0 (some ⟨b,0,none⟩) i c (cur.toList.take (i*1)) hold (n+1-i) (by omega) (by omega) (by omega) (by omega) (by rw[hzb];omega) (by rw[hzb,hik];exact growslice_fits hroom hbig);rw[hik]at h;rw[hkk,hROW,hG];exact h
 have hGn:n+1<=G:=by rw[hG];exact grownCap_ge w _ _ _
 have hGm:G<=maxLen:=by rw[hG];exact grownCap_le_maxLen w (n+1) c 9 (by unfold maxLen;omega)
 have hG63:G<=9223372036854775807:=by unfold maxLen at hGm;omega
 have hRl:ROW.size=G*1:=by
  rw[hROW];simp[Builtin.zeroCells,Value.cells];omega
 obtain⟨W1,hW1⟩:∃W1,W1=w.drew.alloc (.cells ROW 9):=⟨_,rfl⟩;refine⟨G,ROW,W1,hGn,hGm,hROW,hW1,?_⟩;rw[<-hW1]at hrz;have hN1:W1.heap[w.heap.size]? = some (.cells ROW 9 (0,0)):=by rw[hW1];exact Z0g w.drew _
 have hB1:W1.heap[b]? = some (.cells cur tb (0,0)):=by rw[hW1];exact(Z12 w.drew _ b hbw).trans hb
 have hV1:W1.heap[vb]? = some (.cells nv tv (0,0)):=by rw[hW1];exact(Z12 w.drew _ vb hvw).trans hv
 have hvl:(nv.toList.take 1).length=1*1:=by simp;omega
 have hcpA:∀(W:World),W.heap=W1.heap->∀ty dc,(Builtin.copy_ #[26,26] ty #[.slice (some ⟨w.heap.size,i*1,none⟩) (n+1-i) dc,.slice (some ⟨vb,0,none⟩) 1 vc]).run Tryz.prog W = .ok (goInt ((1:Nat):Int)) (W.setRow w.heap.size (putC ROW (i*1) (nv.toList.take 1))):=fun W hW ty dc=>by
  have h0:=Z1j (P:=Tryz.prog) 1 W 26 26 ty 9 w.heap.size (i*1) (n+1-i) dc ⟨vb,0,none⟩ 1 vc ROW 9 (nv.toList.take 1) 1 t24 z9 (by rw[hW];exact hN1) (by simp only[Nat.min_def];split<;>omega) hvl
   (fun j v hj=>by
    rw[Addr.add_lit,Nat.zero_add];simp only[World.cell?,hW,hV1];rw[qm]at hj
    split at hj
    ·simpa using hj
    ·cases hj) (by rw[hvl];omega) (fun v hv=>hv1 v (qn hv))
  exact h0
 obtain⟨A1,hA1⟩:∃A1,A1=putC ROW (i*1) (nv.toList.take 1):=⟨_,rfl⟩;have hA1s:A1.size=ROW.size:=by rw[hA1,Z0n (by rw[hvl];omega)]
 obtain⟨cs,hcs1⟩:∃cs,cs=(cur.toList.drop (i*1)).take ((n-i)*1):=⟨_,rfl⟩;have hcl:cs.length=(n-i)*1:=by rw[hcs1];simp;omega
 have hcg:∀j v,cs[j]? = some v->cur[i*1+j]? = some v:=fun j v hj=>by
  rw[hcs1,qm]at hj
  split at hj
  ·rw[qA]at hj;simpa using hj
  ·cases hj
 have hcm:∀v∈cs,v.oneCell'=true:=fun v hv=>by rw[hcs1]at hv;exact hc1 v (List.mem_of_mem_drop (qn hv))
 have hN2:(W1.setRow w.heap.size A1).heap[w.heap.size]? = some (.cells A1 9 (0,0)):=setRow_heap W1 w.heap.size ROW _ 9 _ hN1;have hB2:(W1.setRow w.heap.size A1).heap[b]? = some (.cells cur tb (0,0)):=by
  show(W1.heap.modify w.heap.size _)[b]? = _
  rw[qP,qJ (by omega)];exact hB1
 have hcpB:∀(W:World),W.heap=(W1.setRow w.heap.size A1).heap->∀ty dc sc,(Builtin.copy_ #[26,26] ty #[.slice (some ⟨w.heap.size,(i+1)*1,none⟩) (n-i) dc,.slice (some ⟨b,i*1,none⟩) (n-i) sc]).run Tryz.prog W = .ok (goInt ((n-i:Nat):Int)) (W.setRow w.heap.size (putC A1 ((i+1)*1) cs)):=fun W hW ty dc sc=>by
  have h0:=Z1j (P:=Tryz.prog) 1 W 26 26 ty 9 w.heap.size ((i+1)*1) (n-i) dc ⟨b,i*1,none⟩ (n-i) sc A1 9 cs (n-i) t24 z9 (by rw[hW];exact hN2) (by simp only[Nat.min_def];split<;>omega) hcl
   (fun j v hj=>by
    have h:=hcg j v hj;rw[Addr.add_lit];simp only[World.cell?,hW,hB2];simpa using h) (by rw[hcl];omega) hcm
  exact h0
 have hw1:IntKind.i64.wrap ((i:Int)+1)=(i:Int)+1:=by rw[IntKind.wrap_i64];omega
 have hw2:IntKind.i64.wrap ((n:Int)+1)=(n:Int)+1:=by rw[IntKind.wrap_i64];omega
 have hw3:IntKind.i64.wrap ((n:Int)+1-(i:Int))=(n:Int)+1-(i:Int):=by rw[IntKind.wrap_i64];omega
 have hb1:(0:Int)<=(i:Int)+1:=by omega
 have hin:i<=n:=by omega
 have htn:((i:Int)+1).toNat=i+1:=by omega
 have hb3:(i:Int)<=(n:Int):=by omega
 have hGi:¬(G=i):=by omega
 have hGim:¬(G=i+1):=by omega
 have hci:¬(c=i):=by omega
 rw[<-hA1]at hcpA;rw[<-hA1,<-hcs1];clear hkk hik hold hROW hG hW1 hcs1 hA1;simp only[Nat.mul_one]at *
 go_enter Tryz.func143,Tryz.ntmps143
 go_wp2_with (first
  |(at_builtin;refine Lib.wpList_append_run _ rfl _ _ _ _ rfl _ _ rfl rfl _ _ (hrz _) ?_)
  |(at_builtin;refine wpList_copy_runI _ rfl _ _ 26 26 rfl _ _ rfl rfl (hcpA _ rfl _ _) ?_))
 go_region_law_o (refine step_copy_runI rfl _ _ 26 26 rfl (.slice (some ⟨w.heap.size,i+1,none⟩) (n-i) (G-(i+1))) (.slice (some ⟨b,i,none⟩) (n-i) (c-i)) (by simp[Act.eval,Act.put]) (by simp[Act.eval,Act.put]) (hcpB (W1.setRow w.heap.size A1).drew rfl 3 (G-(i+1)) (c-i)) ?_)
 go_wp2
 go_ret
 exact⟨rfl,rfl⟩
theorem Z82(m:Nat):∀v∈(Builtin.zeroCells (Value.string ⟨#[]⟩).cells m).toList,v.oneCell'=true:=by
 intro v hv;obtain⟨j,hj,rfl⟩:=qp hv;have h3:j%1=0:=by omega
 simp only[Builtin.zeroCells,Value.cells,Array.toList_map,List.getElem_map,Array.toList_range,List.getElem_range];show(#[Value.string ⟨#[]⟩][j%1]!).oneCell'=true
 rw[h3];rfl
theorem Zj4(m:Nat):(Builtin.zeroCells (Value.string ⟨#[]⟩).cells m).size=m*1:=by simp[Builtin.zeroCells,Value.cells]
theorem Z3v{nv:Array Value}{m y:Nat}(h:y<m):(nv.toList.take m).getD y undef=nv.getD y undef:=by
 simp only[List.getD,qb];rw[List.getElem?_take_of_lt h,Array.getElem?_toList]
theorem Zg3{cur:Array Value}{a m y:Nat}(h:y<m):((cur.toList.drop a).take m).getD y undef=cur.getD (a+y) undef:=by
 simp only[List.getD,qb];rw[List.getElem?_take_of_lt h,qA,Array.getElem?_toList]
set_option maxHeartbeats 1000000 in
theorem Zmt{l:List ByteArray}{i:Nat}{x:ByteArray}{g:Nat->List PV}(hil:i<=l.length)(hln:l.length<=1048576)(hgx:PSubs (g 0) (cstr x)) :
  AC Tryz.prog 143 [.own 0,.pv (vint i),.own 2] [(0,rowL 1 cstr l),(2,.row 1 1 g)] (.own 1) [(1,rowL 1 cstr (insL l i x)),(0,.gone)]:=by
 refine⟨Tryz.call143,fun St M0 σ w vals hi hσ hos hsz hA=>?_⟩;obtain⟨loc0,hl0,hor⟩:=hos 0 _ (by simp[getO];rfl);obtain⟨loc2,hl2,hor2⟩:=hos 2 (.row 1 1 g) (by simp[getO]);have h1:σ 1=none:=hσ 1 (by simp[getO]);have hv0:=Z0l (hA 0 (.own 0) rfl) hl0;have hv1:=pr_val (arg_pv (hA 1 (.pv (vint i)) rfl));have hv2:=Z0l (hA 2 (.own 2) rfl) hl2;have hvals:vals=#[vals.getD 0 undef,vals.getD 1 undef,vals.getD 2 undef]:=by
  have hs2:vals.size=3:=hsz;apply Array.ext
  ·simpa using hs2
  ·intro i h2 h3;have:i=0∨i=1∨i=2:=by omega
   rcases this with rfl|rfl|rfl<;>simp[Array.getD,hs2]
 rw[hvals,hv0,hv1,hv2];generalize hk1:(1:Nat)=n1 at hor2;cases hor2 with
 |row0 _ _ a=>cases hk1
 |row _ _ _ b2 cap2 nv tv hb2 hn2 hmax2 hsz2 hs2 hh2 hone2=>
 subst hk1;have hnv1:∀v∈nv.toList,v.oneCell'=true:=fun v hv=>by
  obtain⟨j,hj,rfl⟩:=qp hv;have:=hone2 j (by simpa using hj);simpa[Array.getD,show j<nv.size from by simpa using hj]using this
 have hnew:∀q p,(g 0)[q]? = some p->PR w (Mof M0 σ) p (nv.getD q undef):=fun q p e=>by
  have:=hh2 0 (by omega) q p e;rwa[Nat.zero_mul,Nat.zero_add]at this
 have hnl:(nv.toList.take 1).length=1:=by simp;omega
 have hnm:∀v∈nv.toList.take 1,v.oneCell'=true:=fun v hv=>hnv1 v (qn hv)
 change OR _ _ _ _ _ (.row 1 l.length fun j=>cstr (l.getD j default)) loc0 at hor;generalize hn0:l.length=n0 at hor;have hml:n0+1<=maxLen:=by unfold maxLen;omega
 cases hor with
 |row0 _ _ a=>
  have hi0:i=0:=by omega
  subst hi0;refine(Zf8 a 0 0 b2 cap2 [] nv tv w (by omega) (by omega) (by omega) (by
   cases a with
   |none=>exact run_firstCells_none w.drew 1 0 0 0
   |some ad=>exact run_firstCells_some w.drew 1 0 ad 0 0 [] rfl (fun j v hj=>by simp at hj)) (fun _=>rfl) hb2 hsz2 hnv1 hn2).mono (fun e w' h=>?_)
  obtain⟨rfl,rfl⟩:=h;have hge:=grownCap_ge w (0+1) 0 9;have hp:=Z4k (P:=Tryz.prog) (x:=x) (g:=g) (enc:=cstr) (k:=1) (cur:=#[]) (nv:=nv) (A:=(([]++nv.toList.take 1).toArray++Builtin.zeroCells (Value.string ⟨#[]⟩).cells (grownCap w (0+1) 0 9-(0+1)))) (t':=9) (c':=grownCap w (0+1) 0 9) hi h1 hl0 hil (.inr (qL _)) (drew_ext.trans (Z2e _ _)) (Z0g w.drew _) (by rw[hn0];exact hge) (grownCap_le_maxLen w _ _ _ hml) (by rw[Array.size_append,List.size_toArray,List.nil_append,hnl,Zj4];omega) (fun v hv=>?_) (fun _=>rfl) hgx (fun j hj=>by omega) hnew (fun y hy=>?_)
  ·rw[hn0]at hp;exact⟨_,_,rfl,hp⟩
  ·simp only[Array.toList_append,qo,List.nil_append]at hv;rcases hv with hv|hv
   ·exact hnm v hv
   ·exact Z82 _ v hv
  ·rw[hn0]at hy;rw[qJ (by omega),qK (by omega),Z0b (by rw[List.size_toArray,List.nil_append,hnl];omega),Nat.zero_mul,Nat.sub_zero,Z2r,List.nil_append,Z3v (m:=1) (by omega)]
 |row _ _ _ b cap vs tb hb hn hmax hsz' hs hh hone=>
  have hc1:∀v∈vs.toList,v.oneCell'=true:=fun v hv=>by
   obtain⟨j,hj,rfl⟩:=qp hv;have:=hone j (by simpa using hj);simpa[Array.getD,show j<vs.size from by simpa using hj]using this
  have hne:b2≠b:=fun e=>by
   subst e;have:=hi.sep 0 2 _ _ b2 hl0 hl2 rfl rfl;cases this
  subst hn0;have hc63:cap<=9223372036854775807:=by unfold maxLen at hmax;omega
  have fin:=fun(w':World) (b' c':Nat) (A:Array Value) (t':TypeId) (hb') (hx) (hA) (hn') (hm') (hz) (ho) (hg)=>Z4k (P:=Tryz.prog) (w':=w') (b':=b') (c':=c') (A:=A) (t':=t') (x:=x) (g:=g) (enc:=cstr) (k:=1) (cur:=vs) (nv:=nv) hi h1 hl0 hil hb' hx hA hn' hm' hz ho (fun _=>rfl) hgx (fun j hj q p e=>hh j hj q p e) hnew hg
  by_cases hin:i=l.length
  ·subst hin
   by_cases hroom:l.length+1<=cap
   ·refine(Zqm b l.length cap b2 cap2 vs nv tb tv w hroom hc63 hb hsz' hb2 hsz2 hnv1 hn2).mono (fun e w' h=>?_);obtain⟨rfl,rfl⟩:=h;rw[Zb3 (P:=Tryz.prog) hb (by rw[hnl];omega) hnm];refine⟨_,_,rfl,fin _ b cap (putC vs (l.length*1) (nv.toList.take 1)) tb (.inl rfl) (setRow_ext.mono fun c _ h=>by rw[h]) (setRow_heap w b vs _ tb _ hb) hroom hmax (by rw[Z0n (by rw[hnl];omega)];exact hsz') (Z18 hc1 hnm) (fun y hy=>?_)⟩;rw[Z17 (by rw[hnl];omega),hnl]
    by_cases hy1:y<l.length*1
    ·rw[qJ (by omega),qK hy1]
    ·rw[qK (by omega),qJ hy1,qK (by omega),Z3v (by omega)]
   ·refine(Zf8 (some ⟨b,0,none⟩) l.length cap b2 cap2 (vs.toList.take (l.length*1)) nv tv w hn (by omega) (by omega) (run_firstCells_some w.drew 1 l.length ⟨b,0,none⟩ l.length cap _ (by simp;omega) (fun j v hj=>?_)) (fun h=>by cases h) hb2 hsz2 hnv1 hn2).mono (fun e w' h=>?_)
    ·rw[Addr.add_lit,Nat.zero_add];rw[qm]at hj
     split at hj
     ·show w.cell? _=_
      simp only[World.cell?,hb];simpa using hj
     ·cases hj
    obtain⟨rfl,rfl⟩:=h;have htl:(vs.toList.take (l.length*1)).length=l.length*1:=by simp;omega
    have hge:=grownCap_ge w (l.length+1) cap 9;refine⟨_,_,rfl,fin _ w.heap.size (grownCap w (l.length+1) cap 9) _ 9 (.inr (qL _)) (drew_ext.trans (Z2e _ _)) (Z0g w.drew _) hge (grownCap_le_maxLen w _ _ _ hml) (by rw[Array.size_append,List.size_toArray,ql,hnl,htl,Zj4];omega) (fun v hv=>?_) (fun y hy=>?_)⟩
    ·simp only[Array.toList_append,qo]at hv;rcases hv with(hv|hv)|hv
     ·exact hc1 v (qn hv)
     ·exact hnm v hv
     ·exact Z82 _ v hv
    ·rw[Z0b (by rw[List.size_toArray,ql,hnl,htl];omega),Z2r]
     by_cases hy1:y<l.length*1
     ·rw[qK hy1,Za6 (by rw[htl];exact hy1),Z3v hy1]
     ·rw[qJ hy1,qK (by omega),Z9q (by rw[htl];omega),htl,Z3v (by omega)]
  ·have hcl:((vs.toList.drop (i*1)).take ((l.length-i)*1)).length=(l.length-i)*1:=by simp;omega
   have hcm:∀v∈(vs.toList.drop (i*1)).take ((l.length-i)*1),v.oneCell'=true:=fun v hv=>hc1 v (List.mem_of_mem_drop (qn hv))
   by_cases hroom:l.length+1<=cap
   ·refine(Zqo b l.length cap i b2 cap2 vs nv tb tv w (by omega) hroom hc63 hne hb hsz' hc1 hb2 hsz2 hnv1 hn2).mono (fun e w' h=>?_);obtain⟨rfl,rfl⟩:=h;have hs1:(putC vs ((i+1)*1) ((vs.toList.drop (i*1)).take ((l.length-i)*1))).size=vs.size:=Z0n (by rw[hcl];omega);refine⟨_,_,rfl,fin _ b cap _ tb (.inl rfl) ((drew_ext.trans setRow_ext).trans setRow_ext |>.mono fun c _ h=>by rw[h]) (setRow_heap _ b _ _ tb _ (setRow_heap w.drew b vs _ tb _ hb)) hroom hmax (by rw[Z0n (by rw[hs1,hnl];omega),hs1];exact hsz') (Z18 (Z18 hc1 hcm) hnm) (fun y hy=>?_)⟩;rw[Z17 (by rw[hs1,hnl];omega),hnl,Z17 (by rw[hcl];omega),hcl]
    by_cases hy1:y<i*1
    ·rw[qJ (by omega),qJ (by omega),qK hy1]
    ·rw[qJ hy1]
     by_cases hy2:y<(i+1)*1
     ·rw[qK (by omega),qK hy2,Z3v (by omega)]
     ·rw[qJ (by omega),qK (by omega),qJ hy2,Zg3 (by omega)];congr 1;omega
   ·obtain⟨G,ROW,W1,hG1,hG2,hROW,hW1,hcalls⟩:=Zqn b l.length cap i b2 cap2 vs nv tb tv w (by omega) hn (by omega) (by omega) hb hsz' hc1 hb2 hsz2 hnv1 hn2;refine hcalls.mono (fun e w' h=>?_);obtain⟨rfl,rfl⟩:=h;have hRs:ROW.size=G*1:=by rw[hROW];simp[Builtin.zeroCells,Value.cells];omega
    have hRo:∀v∈ROW.toList,v.oneCell'=true:=fun v hv=>by
     rw[hROW]at hv;simp only[Array.toList_append,qo]at hv;rcases hv with(hv|hv)|hv
     ·exact hc1 v (qn hv)
     ·exact Z82 _ v hv
     ·exact Z82 _ v hv
    have hRg:∀y,y<i*1->ROW.getD y undef=vs.getD y undef:=fun y hy=>by
     rw[hROW,Array.append_assoc,Z0b (by simp;omega),Z2r,Z3v hy]
    have hN1:W1.heap[w.heap.size]? = some (.cells ROW 9 (0,0)):=by rw[hW1];exact Z0g w.drew _
    have hs1:(putC ROW (i*1) (nv.toList.take 1)).size=ROW.size:=Z0n (by rw[hnl];omega);have hN2:=setRow_heap W1 w.heap.size ROW (putC ROW (i*1) (nv.toList.take 1)) 9 _ hN1;refine⟨_,_,rfl,fin _ w.heap.size G _ 9 (.inr (qL _)) ?_ (setRow_heap _ w.heap.size _ _ 9 _ hN2) hG1 hG2 (by rw[Z0n (by rw[hs1,hcl];omega),hs1];exact hRs) (Z18 (Z18 hRo hnm) hcm) (fun y hy=>?_)⟩
    ·have e1:FExt (fun b=>b=w.heap.size) w W1:=by rw[hW1];exact drew_ext.trans (Z2e _ _)
     have e2:=((e1.trans (setRow_ext (A:=putC ROW (i*1) (nv.toList.take 1)))).trans drew_ext).trans (setRow_ext (A:=putC (putC ROW (i*1) (nv.toList.take 1)) ((i+1)*1) ((vs.toList.drop (i*1)).take ((l.length-i)*1))));exact e2.mono fun c hc h=>absurd h (by omega)
    ·rw[Z17 (by rw[hs1,hcl];omega),hcl,Z17 (by rw[hnl];omega),hnl]
     by_cases hy1:y<i*1
     ·rw[qJ (by omega),qJ (by omega),qK hy1,hRg y hy1]
     ·rw[qJ hy1]
      by_cases hy2:y<(i+1)*1
      ·rw[qJ (by omega),qK (by omega),qK hy2,Z3v (by omega)]
      ·rw[qK (by omega),qJ hy2,Zg3 (by omega)];congr 1;omega
open Go.Proofs
set_option maxRecDepth 10000
theorem wrapU{n:Int}(h:0<=n∧n<=18446744073709551615):IntKind.wrap .u64 n=n:=IntWalk.u64_in n h
def smallV(n:Int):Prop:=-1099511627776<=n∧n<=1099511627776
theorem Zbw(b:Bool):AC Tryz.prog 249 [.pv (vbool b)] [] (.pv (vint (if b=true then -1099511627776 else 1099511627776))) []:=by
 refine AC.of_awp (T:=T) T_ok hm Tryz.call249 Tryz.func249 rfl rfl rfl ?_
 conv=>whnf
 repeat(any_goals((first|refine QB ?_ ?_<;>intro h<;>(try simp only[Q0,Q1,Q2,Q3,Q4,Q5,Q6,Q7,Q8,reduceCtorEq]at h))<;>conv=>whnf))
 ·subst h;exact PSub.rfl
 subst h;exact PSub.rfl
theorem Zk5(a b:Int)(ha:smallN a)(hb:smallN b):AC Tryz.prog 214 [.pv (vint a),.pv (vint b)] [] (.pv (vint (satI (a-b)))) []:=by
 obtain⟨h1,h2⟩:=ha;obtain⟨h3,h4⟩:=hb;refine AC.of_awp (T:=T) T_ok hm Tryz.call214 Tryz.func214 rfl rfl rfl ?_
 conv=>whnf
 refine .inl ⟨wrap64 (by omega),?_⟩
 conv=>whnf
 repeat(any_goals((first|refine QB ?_ ?_<;>intro h<;>(try simp only[Q0,Q1,Q2,Q3,Q4,Q5,Q6,Q7,Q8,reduceCtorEq]at h)|refine .inl ⟨_,Z88 (a-b),?_⟩|refine .inl ⟨_,Zbw (decide (a<0)),?_⟩)<;>conv=>whnf))
 all_goals(try simp only[Q0,Q1,Q2,Q3,Q4,Q5,Q6,Q7,Q8,reduceCtorEq]at *)
 all_goals first
  |contradiction
  |(exfalso;omega)
  |exact PSub.rfl
  |(refine PSub.int ?_;simp only[satI];(repeat' split)<;>first|rfl|omega|(simp_all[-List.getD_eq_getElem?_getD];done)|(simp_all[-List.getD_eq_getElem?_getD];omega))
  |(refine PSub.sb ?_;simp_all[satI,-List.getD_eq_getElem?_getD];done)
  |(refine PSub.lit_sb ?_;simp_all[satI,-List.getD_eq_getElem?_getD];done)
  |(refine PSub.sb_lit ?_;simp_all[satI,-List.getD_eq_getElem?_getD];done)
  |(refine PSub.sb ?_;rw[qt];simp_all[satI,-List.getD_eq_getElem?_getD];done)
  |(refine PSub.lit_sb ?_;rw[qt];simp_all[satI,-List.getD_eq_getElem?_getD];done)
  |(refine PSub.sb_lit ?_;rw[qt];simp_all[satI,-List.getD_eq_getElem?_getD];done)
  |skip
theorem Zbx(n:Int)(h:smallV n):AC Tryz.prog 253 [.pv (vint n)] [] (.pv (.val (.int .u64 (sizeU n)))) []:=by
 obtain⟨h1,h2⟩:=h;have e0 (x:Int) (h:0<=x∧x<=9223372036854775807):IntKind.i64.wrap x=x:=wrap64 (by omega);refine AC.of_awp (T:=T) T_ok hm Tryz.call253 Tryz.func253 rfl rfl rfl ?_
 conv=>whnf
 repeat(any_goals((first|refine QB ?_ ?_<;>intro h<;>(try simp only[Q0,Q1,Q2,Q3,Q4,Q5,Q6,Q7,Q8,reduceCtorEq]at h)|refine QW ?_)<;>conv=>whnf))
 ·rw[e0 (0-(n+1)) (by omega),wrapU (n:=0-(n+1)) (by omega)];refine .inl ⟨wrapU (by omega),?_⟩
  conv=>whnf
  refine PSub.int ?_;unfold sizeU;rw[qK (by omega)];omega
 rw[wrapU (by omega)];refine PSub.int ?_;unfold sizeU;rw[qJ (by omega)]
theorem Zk7(a b:Int)(ha:0<=a∧a<=1099511627776)(hb:0<=b∧b<=1099511627776):AC Tryz.prog 252 [.pv (.val (.int .u64 a)),.pv (.val (.int .u64 b))] [] (.pv (.val (.int .u64 (timesU a b)))) []:=by
 have hq:0<=(1099511627776:Int).tdiv b∧(1099511627776:Int).tdiv b<=1099511627776:=by
  rw[Int.tdiv_eq_ediv_of_nonneg (by omega)];exact⟨Int.ediv_nonneg (by omega) hb.1,Int.ediv_le_self _ (by omega)⟩
 have hmm:¬(b≠0∧(1099511627776:Int).tdiv b<a)->0<=a*b∧a*b<=18446744073709551615:=fun h=>by
  refine⟨Int.mul_nonneg ha.1 hb.1,?_⟩
  by_cases hb0:b=0
  ·subst hb0;omega
  have h1:a<=(1099511627776:Int).tdiv b:=by
   rcases Int.lt_or_le ((1099511627776:Int).tdiv b) a with h2|h2
   ·exact absurd ⟨hb0,h2⟩ h
   exact h2
  rw[Int.tdiv_eq_ediv_of_nonneg (by omega)]at h1;have h2:=(Int.le_ediv_iff_mul_le (by omega)).1 h1;omega
 refine AC.of_awp (T:=T) T_ok hm Tryz.call252 Tryz.func252 rfl rfl rfl ?_
 conv=>whnf
 repeat(any_goals((first|refine QB ?_ ?_<;>intro h<;>(try simp only[Q0,Q1,Q2,Q3,Q4,Q5,Q6,Q7,Q8,reduceCtorEq]at h)|refine QI ?_)<;>conv=>whnf))
 all_goals first
  |(refine .inl ⟨wrapU (by omega),?_⟩;conv=>whnf)
  |(subst h;refine .inl ⟨wrapU (hmm (by simp)),?_⟩;conv=>whnf)
 repeat(any_goals((first|refine QB ?_ ?_<;>intro h<;>(try simp only[Q0,Q1,Q2,Q3,Q4,Q5,Q6,Q7,Q8,reduceCtorEq]at h))<;>conv=>whnf))
 ·refine PSub.int ?_;unfold timesU;rw[qK (by omega)]
 ·rename_i h1;refine .inl ⟨wrapU (hmm (by omega)),?_⟩
  conv=>whnf
  refine PSub.int ?_;unfold timesU;rw[qJ (by omega)]
 refine PSub.int ?_;unfold timesU;rw[qJ (by omega)]
theorem Zk6(n:Int)(b:Bool)(h:0<=n∧n<=1099511627777):AC Tryz.prog 251 [.pv (.val (.int .u64 n)),.pv (vbool b)] [] (.pv (vint (signI n b))) []:=by
 have e0 (x:Int) (h:-9223372036854775807<=x∧x<=9223372036854775807):IntKind.i64.wrap x=x:=wrap64 (by omega);refine AC.of_awp (T:=T) T_ok hm Tryz.call251 Tryz.func251 rfl rfl rfl ?_
 conv=>whnf
 repeat(any_goals((first|refine QB ?_ ?_<;>intro h<;>(try simp only[Q0,Q1,Q2,Q3,Q4,Q5,Q6,Q7,Q8,reduceCtorEq]at h)|refine .inl ⟨_,Zbw b,?_⟩)<;>conv=>whnf))
 ·rw[show signI n b=if b=true then -1099511627776 else 1099511627776 from by unfold signI;exact qK h];exact PSub.rfl
 ·rename_i h1 h2;subst h;rw[e0 n (by omega),e0 (0-n) (by omega)];refine PSub.int ?_;unfold signI;rw[qJ (by omega),qK rfl];omega
 subst h;rw[e0 n (by omega)];refine PSub.int ?_;unfold signI;rw[qJ (by omega),qJ (by simp)]
theorem Z4t{n:Int}(h:smallV n):0<=sizeU n∧sizeU n<=1099511627776:=by
 obtain⟨h1,h2⟩:=h;unfold sizeU;split<;>omega
theorem Zwv{a b:Int}(ha:0<=a∧a<=1099511627776)(hb:0<=b∧b<=1099511627776):0<=timesU a b∧timesU a b<=1099511627777:=by
 unfold timesU;split
 ·omega
 rename_i h;refine⟨Int.mul_nonneg ha.1 hb.1,?_⟩
 by_cases hb0:b=0
 ·subst hb0;omega
 have h1:a<=(1099511627776:Int).tdiv b:=by
  rcases Int.lt_or_le ((1099511627776:Int).tdiv b) a with h2|h2
  ·exact absurd ⟨hb0,h2⟩ h
  exact h2
 rw[Int.tdiv_eq_ediv_of_nonneg (by omega)]at h1;have h2:=(Int.le_ediv_iff_mul_le (by omega)).1 h1;omega
theorem Zk4(a b:Int)(ha:smallV a)(hb:smallV b):AC Tryz.prog 215 [.pv (vint a),.pv (vint b)] [] (.pv (vint (mulI a b))) []:=by
 have h1:=Z4t ha;have h2:=Z4t hb;have h3:=Zwv h1 h2;refine AC.of_awp (T:=T) T_ok hm Tryz.call215 Tryz.func215 rfl rfl rfl ?_
 conv=>whnf
 repeat(any_goals((first|refine .inl ⟨_,Zbx a ha,?_⟩|refine .inl ⟨_,Zbx b hb,?_⟩|refine .inl ⟨_,Zk7 (sizeU a) (sizeU b) h1 h2,?_⟩|refine .inl ⟨_,Zk6 (timesU (sizeU a) (sizeU b)) (!(decide (a<0) == decide (b<0))) h3,?_⟩)<;>conv=>whnf))
 all_goals exact PSub.rfl
theorem smallV.N{n:Int}(h:smallV n):smallN n:=⟨by have:=h.1;omega,by have:=h.2;omega⟩
end Go.Abs
