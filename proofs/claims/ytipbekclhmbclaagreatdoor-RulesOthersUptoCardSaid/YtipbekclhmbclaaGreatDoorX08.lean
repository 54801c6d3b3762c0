/- YtipbekclhmbclaaGreatDoorX08: walks and contracts. -/
import Derived.Test.YtipbekclhmbclaaGreatDoorX07

set_option linter.unusedVariables false
set_option linter.unusedSimpArgs false
set_option linter.unusedSectionVars false

namespace Go.Abs
theorem QT{c:Bool}{A:Prop}(x:c=true→A):c=true→A:=x
theorem QF{c:Bool}{A:Prop}(x:c=false→A):c=false→A:=x
open Go.Proofs
set_option maxRecDepth 10000
theorem fnd_ok{x:Val}(h:(fndV x).2=true):(fndV x).1=x∧x.kind≠0:=by
 by_cases hk:x.kind=0
 ·rw[Z4c hk]at h;cases h
 rw[Z2f hk];exact⟨rfl,hk⟩
theorem fnd_un{x:Val}(h:(fndV x).2=false):x.kind=0:=by
 by_cases hk:x.kind=0
 ·exact hk
 rw[Z2f hk]at h;cases h
theorem Znw{x:Int}(h:0<=x∧x<=1000000):abits .and .i64 x 1=x.tmod 2:=by
 obtain⟨n,rfl⟩:∃n:Nat,x=n:=⟨x.toNat,by omega⟩;show IntKind.i64.wrap (((BitVec.ofInt IntKind.i64.bits (n:Int) &&& BitVec.ofInt IntKind.i64.bits 1).toNat:Nat):Int)=_
 have h1:(BitVec.ofInt IntKind.i64.bits (n:Int) &&& BitVec.ofInt IntKind.i64.bits 1).toNat=n%2:=by
  rw[BitVec.toNat_and];have e1:(BitVec.ofInt IntKind.i64.bits (n:Int)).toNat=n:=by
   rw[BitVec.ofInt_natCast,BitVec.toNat_ofNat];exact Nat.mod_eq_of_lt (by show n<2 ^ 64;omega)
  have e2:(BitVec.ofInt IntKind.i64.bits 1).toNat=1:=by decide
  rw[e1,e2,Nat.and_one_is_mod]
 rw[h1,wrap64 (by omega),Int.tmod_eq_emod_of_nonneg (by omega)];omega
theorem day_in{n w:Int}(h:1<=n∧n<=127):0<=n.fdiv (2 ^ min w.toNat 64)∧n.fdiv (2 ^ min w.toNat 64)<=1000000:=by
 have hm:(0:Int)<2 ^ min w.toNat 64:=Int.pow_pos (by decide);rw[Int.fdiv_eq_ediv_of_nonneg _ (Int.le_of_lt hm)];exact⟨Int.ediv_nonneg (by omega) (by omega),Int.le_trans (Int.ediv_le_self _ (by omega)) (by omega)⟩
def iteV(l:List Val):Val:=if(l.getD 0 default).kind≠1 then noVal else l.getD (2-(l.getD 0 default).n).toNat default
theorem Zjo(v:Vw)(ks:List Ex)(h3:ks.length=3)(hok:∀i,i<ks.length->okN (ks.getD i default))
  (ih:∀i,i<ks.length->AC Tryz.prog 98 [.pv (.agg (cVw v)),.pv (.agg (cEx (ks.getD i default)))] [] (.pv (.tup [.agg (cVal (fndV (evR v (ks.getD i default))).1),vbool (fndV (evR v (ks.getD i default))).2])) []) :
  AC Tryz.prog 154 [.pv (.agg (cVw v)),.pv (roL 11 cEx ks)] [] (.pv (.tup [.agg (cVal (fndV (iteV (evL v ks))).1),vbool (fndV (iteV (evL v ks))).2])) []:=by
 have g:∀i,i<3->(evL v ks).getD i default=evR v (ks.getD i default):=fun i hi=>Z1y v ks i (by omega)
 have hb:=evR_ok v (hok 0 (by omega));unfold iteV;rw[g 0 (by omega)];refine AC.of_awp (T:=T) T_ok hm Tryz.call154 Tryz.func154 rfl rfl rfl ?_
 conv=>whnf
 repeat(any_goals((first|refine⟨QT ?_,QF ?_⟩<;>intro h<;>(try simp only[Q0,Q1,Q2,Q3,Q4,Q5,Q6,Q7,Q8,reduceCtorEq]at h)|refine .inl ⟨_,ih 0 (by omega),?_⟩|refine .inl ⟨_,ih 1 (by omega),?_⟩|refine .inl ⟨_,ih 2 (by omega),?_⟩|refine .inl ⟨_,Z1t,?_⟩|refine QI ?_|refine QK ?_)<;>conv=>whnf))
 ·rw[show fndV (if(evR v (ks.getD 0 default)).kind≠1 then noVal else(evL v ks).getD (2-(evR v (ks.getD 0 default)).n).toNat default)=(noVal,false)from by
   rw[qK (by have:=fnd_un h;omega)];rfl]
  refine⟨?_,?_⟩<;>(conv=>whnf)
  ·exact QE
  ·exact QE
 ·rename_i h1;have hf:=fnd_ok h1;rw[hf.1]at h;rw[show fndV (if(evR v (ks.getD 0 default)).kind≠1 then noVal else(evL v ks).getD (2-(evR v (ks.getD 0 default)).n).toNat default)=(noVal,false)from by
   rw[qK h];rfl]
  refine⟨?_,?_⟩<;>(conv=>whnf)
  ·exact QE
  ·exact QE
 ·rename_i h1 h2;have hf:=fnd_ok h1;rw[hf.1]at h h2;rw[show(if(evR v (ks.getD 0 default)).kind≠1 then noVal else(evL v ks).getD (2-(evR v (ks.getD 0 default)).n).toNat default)=evR v (ks.getD 1 default)from by
   rw[qJ (fun x=>x h2),h];exact g 1 (by omega)]
  refine⟨?_,?_⟩<;>(conv=>whnf)
  ·exact QE
  ·exact QE
 ·rename_i h1 h2;have hf:=fnd_ok h1;rw[hf.1]at h h2;have hz:(evR v (ks.getD 0 default)).n=0:=by
   rcases Z67 hb h2 with e|e
   ·rw[e]at h;exact absurd rfl h
   ·rw[e];rfl
  rw[show(if(evR v (ks.getD 0 default)).kind≠1 then noVal else(evL v ks).getD (2-(evR v (ks.getD 0 default)).n).toNat default)=evR v (ks.getD 2 default)from by
   rw[qJ (fun x=>x h2),hz];exact g 2 (by omega)]
  refine⟨?_,?_⟩<;>(conv=>whnf)
  ·exact QE
  ·exact QE
set_option maxHeartbeats 4000000 in
theorem Zbq(v:Vw)(e:Ex)(hv:smallV2 v)(he:okN e):AC Tryz.prog 98 [.pv (.agg (cVw v)),.pv (.agg (cEx e))] [] (.pv (.tup [.agg (cVal (fndV (evR v e)).1),vbool (fndV (evR v e)).2])) []:=by
 have hlen:=Z7e ((Z0h e).1 he).1;have ih:∀k,k<e.kids.length->AC Tryz.prog 98 [.pv (.agg (cVw v)),.pv (.agg (cEx (e.kids.getD k default)))] [] (.pv (.tup [.agg (cVal (fndV (evR v (e.kids.getD k default))).1),vbool (fndV (evR v (e.kids.getD k default))).2])) []:=fun k hk=>
  have:=Ex.kid_lt (Ex.kid_at hk)
  Zbq v (e.kids.getD k default) hv ((Z1h _).1 ((Z0h e).1 he).2 _ (Ex.kid_at hk))
 have hok:∀k,k<e.kids.length->okN (e.kids.getD k default):=fun k hk=>(Z1h _).1 ((Z0h e).1 he).2 _ (Ex.kid_at hk)
 have hokk:∀k,k<e.kids.length->valE (evR v (e.kids.getD k default))=0:=fun k hk=>evR_ok v (hok k hk)
 have g:∀i,i<e.kids.length->(evL v e.kids).getD i default=evR v (e.kids.getD i default):=fun i hi=>Z1y v e.kids i hi
 have hrg:=Zh3 he;have hkl:=Zfo he;have hki:=Zgi he;have hw:=Ziu v.minute;have hlit:=fun hk:e.kind=1=>Zgb ((Z0h e).1 he).1 hk
 have hj7:=Zbr v e.kids false hv (qF hlen (by decide)) hok ih;have hj8:=Zbr v e.kids true hv (qF hlen (by decide)) hok ih;have hch:=fun h3=>Zjo v e.kids h3 hok ih
 rw[evR_eq];refine AC.ex2 ?_;refine AC.of_awp (T:=T) T_ok hm Tryz.call98 Tryz.func98 rfl rfl rfl ?_
 conv=>whnf
 repeat(any_goals((first|refine⟨QT ?_,QF ?_⟩<;>intro h<;>(try simp only[Q0,Q1,Q2,Q3,Q4,Q5,Q6,Q7,Q8,reduceCtorEq]at h)|refine QI ?_|refine QK ?_)<;>conv=>whnf))
 all_goals(try contradiction)
 all_goals(try(exfalso;omega))
 ·rw[show fndV (nodV v e.kind e.n e.m e.name e.value e.key (evL v e.kids))=(e.value,true)from by
   unfold nodV;rw[qK h];exact Z2f (hlit h).2]
  refine⟨?_,?_⟩<;>(conv=>whnf)
  ·exact QE
  ·exact QE
 ·repeat(any_goals((first|refine .inl ⟨_,Zjn v e.key hv,?_⟩)<;>conv=>whnf))
  rw[show nodV v e.kind e.n e.m e.name e.value e.key (evL v e.kids)=atV v.items e.key from by
   unfold nodV;rw[qJ (by omega),qK h]]
  refine⟨?_,?_⟩<;>(conv=>whnf)
  ·exact QE
  ·exact QE
 ·repeat(any_goals((first|refine .inl ⟨_,Z2v _,?_⟩)<;>conv=>whnf))
  rw[show fndV (nodV v e.kind e.n e.m e.name e.value e.key (evL v e.kids))=(truV (decide (v.mode=e.name)),true)from by
   unfold nodV;rw[qJ (by omega),qJ (by omega),qK h];exact Z5f _]
  refine⟨?_,?_⟩<;>(conv=>whnf)
  ·exact QE
  ·exact QE
 ·repeat(any_goals((first|refine .inl ⟨_,Z1t,?_⟩)<;>conv=>whnf))
  rw[show fndV (nodV v e.kind e.n e.m e.name e.value e.key (evL v e.kids))=(noVal,false)from by
   unfold nodV;rw[qJ (by omega),qJ (by omega),qJ (by omega),qK (by omega),qK (by omega)]
   rfl]
  refine⟨?_,?_⟩<;>(conv=>whnf)
  ·exact QE
  ·exact QE
 ·repeat(any_goals((first|refine .inl ⟨_,Zbk v.minute,?_⟩|refine .inl ⟨_,Zjp (ofDay v.minute) e.n e.m,?_⟩|refine .inl ⟨_,Z2v _,?_⟩|refine QK ?_)<;>conv=>whnf))
  rw[show fndV (nodV v e.kind e.n e.m e.name e.value e.key (evL v e.kids))=(truV (within (ofDay v.minute) e.n e.m),true)from by
   unfold nodV;rw[qJ (by omega),qJ (by omega),qJ (by omega),qK (by omega),qJ (by omega),qK (by omega)];exact Z5f _]
  refine⟨?_,?_⟩<;>(conv=>whnf)
  ·exact QE
  ·exact QE
 ·repeat(any_goals((first|refine .inl ⟨_,Z1t,?_⟩)<;>conv=>whnf))
  rw[show fndV (nodV v e.kind e.n e.m e.name e.value e.key (evL v e.kids))=(noVal,false)from by
   unfold nodV;rw[qJ (by omega),qJ (by omega),qJ (by omega),qK (by omega),qK (by omega)]
   rfl]
  refine⟨?_,?_⟩<;>(conv=>whnf)
  ·exact QE
  ·exact QE
 ·repeat(any_goals((first|refine .inl ⟨_,Zbl v.minute,?_⟩|refine .inl ⟨_,Z2v _,?_⟩|refine QI ?_|refine QK ?_)<;>conv=>whnf))
  rw[show abits .and .i64 (e.n.fdiv (2 ^ min (weekday v.minute).toNat IntKind.i64.bits)) 1=(e.n.fdiv (2 ^ min (weekday v.minute).toNat 64)).tmod 2 from Znw (day_in (hrg.2 (by omega)))];rw[show fndV (nodV v e.kind e.n e.m e.name e.value e.key (evL v e.kids))=(truV (dayB e.n (weekday v.minute)),true)from by
   unfold nodV;rw[qJ (by omega),qJ (by omega),qJ (by omega),qK (by omega),qJ (by omega),qJ (by omega)];exact Z5f _]
  refine⟨?_,?_⟩<;>(conv=>whnf)
  ·exact QE
  ·exact QE
 ·repeat(any_goals((first|refine .inl ⟨_,Zjq v.members e.n hv.2,?_⟩|refine .inl ⟨_,Z2v _,?_⟩)<;>conv=>whnf))
  rw[show fndV (nodV v e.kind e.n e.m e.name e.value e.key (evL v e.kids))=(truV (homeB v.members e.n),true)from by
   unfold nodV;rw[qJ (by omega),qJ (by omega),qJ (by omega),qJ (by omega),qK (by omega)];exact Z5f _]
  refine⟨?_,?_⟩<;>(conv=>whnf)
  ·exact QE
  ·exact QE
 ·have h1:=hkl.1 h;rw[show nodV v e.kind e.n e.m e.name e.value e.key (evL v e.kids)=if(evR v (e.kids.getD 0 default)).kind≠1 then noVal else truV (decide ((evR v (e.kids.getD 0 default)).n=0))from by
   unfold nodV;rw[qJ (by omega),qJ (by omega),qJ (by omega),qJ (by omega),qJ (by omega),qK h,g 0 (by omega)]]
  repeat(any_goals((first|refine⟨QT ?_,QF ?_⟩<;>intro h<;>(try simp only[Q0,Q1,Q2,Q3,Q4,Q5,Q6,Q7,Q8,reduceCtorEq]at h)|refine .inl ⟨_,ih 0 (by omega),?_⟩|refine .inl ⟨_,Z1t,?_⟩|refine .inl ⟨_,Z2v _,?_⟩|refine QK ?_)<;>conv=>whnf))
  ·rw[qK (by have:=fnd_un h;omega),show fndV noVal=(noVal,false)from rfl];refine⟨?_,?_⟩<;>(conv=>whnf)
   ·exact QE
   ·exact QE
  ·rename_i h2;have hf:=fnd_ok h2;rw[hf.1]at h;rw[qK h,show fndV noVal=(noVal,false)from rfl];refine⟨?_,?_⟩<;>(conv=>whnf)
   ·exact QE
   ·exact QE
  ·rename_i h2;have hf:=fnd_ok h2;rw[hf.1]at h ⊢;rw[qJ (fun x=>x h),Z5f];refine⟨?_,?_⟩<;>(conv=>whnf)
   ·exact QE
   ·exact QE
 ·repeat(any_goals((first|refine .inl ⟨_,hj7,?_⟩)<;>conv=>whnf))
  rw[show nodV v e.kind e.n e.m e.name e.value e.key (evL v e.kids)=chainV (evL v e.kids) false from by
   unfold nodV;rw[qJ (by omega),qJ (by omega),qJ (by omega),qJ (by omega),qJ (by omega),qJ (by omega),qK (by omega)]]
  refine⟨?_,?_⟩<;>(conv=>whnf)
  ·exact QE
  ·exact QE
 ·repeat(any_goals((first|refine .inl ⟨_,hj8,?_⟩)<;>conv=>whnf))
  rw[show nodV v e.kind e.n e.m e.name e.value e.key (evL v e.kids)=chainV (evL v e.kids) true from by
   unfold nodV;rw[qJ (by omega),qJ (by omega),qJ (by omega),qJ (by omega),qJ (by omega),qJ (by omega),qJ (by omega),qK (by omega)]]
  refine⟨?_,?_⟩<;>(conv=>whnf)
  ·exact QE
  ·exact QE
 ·repeat(any_goals((first|refine .inl ⟨_,hch (hkl.2.2 h),?_⟩)<;>conv=>whnf))
  rw[show nodV v e.kind e.n e.m e.name e.value e.key (evL v e.kids)=iteV (evL v e.kids)from by
   unfold nodV;rw[qJ (by omega),qJ (by omega),qJ (by omega),qJ (by omega),qJ (by omega),qJ (by omega),qJ (by omega),qJ (by omega),qJ (by omega),qK (by omega)];rfl]
  refine⟨?_,?_⟩<;>(conv=>whnf)
  ·exact QE
  ·exact QE
 ·have h2:=hkl.2.1 (by omega);rw[show nodV v e.kind e.n e.m e.name e.value e.key (evL v e.kids)=if(evR v (e.kids.getD 0 default)).kind=0∨(evR v (e.kids.getD 1 default)).kind=0 then noVal
    else if e.kind=9 then truV (decide (evR v (e.kids.getD 0 default)=evR v (e.kids.getD 1 default)))else intV e.kind (evR v (e.kids.getD 0 default)) (evR v (e.kids.getD 1 default))from by
   unfold nodV;rw[qJ (by omega),qJ (by omega),qJ (by omega),qJ (by omega),qJ (by omega),qJ (by omega),qJ (by omega),qJ (by omega),g 0 (by omega),g 1 (by omega)]
   by_cases h9:e.kind=9
   ·rw[qK h9,qK h9]
   ·rw[qJ h9,qJ (by omega),qJ h9]
    by_cases h0:(evR v (e.kids.getD 0 default)).kind=0∨(evR v (e.kids.getD 1 default)).kind=0
    ·rw[qK h0];unfold intV;rw[qK (by omega)]
    ·rw[qJ h0]]
  repeat(any_goals((first|refine⟨QT ?_,QF ?_⟩<;>intro h<;>(try simp only[Q0,Q1,Q2,Q3,Q4,Q5,Q6,Q7,Q8,reduceCtorEq]at h)|refine .inl ⟨_,ih 0 (by omega),?_⟩|refine .inl ⟨_,ih 1 (by omega),?_⟩|refine .inl ⟨_,Z1t,?_⟩|refine QI ?_|refine QK ?_)<;>conv=>whnf))
  ·rw[qK (.inl (fnd_un h)),show fndV noVal=(noVal,false)from rfl];refine⟨?_,?_⟩<;>(conv=>whnf)
   ·exact QE
   ·exact QE
  ·rw[qK (.inr (fnd_un h)),show fndV noVal=(noVal,false)from rfl];refine⟨?_,?_⟩<;>(conv=>whnf)
   ·exact QE
   ·exact QE
  ·rename_i h1;have f0:=fnd_ok h1;have f1:=fnd_ok h;rw[f0.1,f1.1];rw[qJ (fun x=>x.elim f0.2 f1.2)]
   repeat(any_goals((first|refine .inl ⟨_,Zjs e.kind (evR v (e.kids.getD 0 default)) (evR v (e.kids.getD 1 default)) (hokk 0 (by omega)) (hokk 1 (by omega)),?_⟩)<;>conv=>whnf))
   refine⟨?_,?_⟩<;>(conv=>whnf)
   ·exact QE
   ·exact QE
termination_by SizeOf.sizeOf e
theorem Z85(v:Vw)(e:Ex)(hv:smallV2 v):AC Tryz.prog 54 [.pv (.agg (cVw v)),.pv (.agg (cEx e))] [] (.pv (.tup [.agg (cVal (evlE v e).1),vbool (evlE v e).2])) []:=by
 have hok:exE e=0->okN e:=fun h=>((Z4a e).1 h).1
 refine AC.of_awp (T:=T) T_ok hm Tryz.call54 Tryz.func54 rfl rfl rfl ?_
 conv=>whnf
 repeat(any_goals((first|refine⟨QT ?_,QF ?_⟩<;>intro h<;>(try simp only[Q0,Q1,Q2,Q3,Q4,Q5,Q6,Q7,Q8,reduceCtorEq]at h)|refine .inl ⟨_,Z6a e,?_⟩|refine .inl ⟨_,Z1t,?_⟩|refine .inl ⟨_,Zbq v e hv (hok (by assumption)),?_⟩)<;>conv=>whnf))
 ·rw[show evlE v e=(noVal,false)from qK h];refine⟨?_,?_⟩<;>(conv=>whnf)
  ·exact QE
  exact QE
 rw[show evlE v e=fndV (evR v e)from qJ (fun x=>x h)];refine⟨?_,?_⟩<;>(conv=>whnf)
 ·exact QE
 exact QE
theorem Zto{G:Nat->ByteArray}{i:Nat}{x:ByteArray}{n:Nat}:∀j,j<n->PSubs (updAt (fun j=>cstr (G j)) i 0 (cstr x) j) (cstr (if j=i then x else G j)):=by
 intro j _
 by_cases e:j=i
 ·subst e;rw[Z19,qK rfl];exact PSubs.rfl
 rw[Z11 e,qJ e];exact PSubs.rfl
theorem Zmf(l:List ByteArray)(hl:l.length<=8388608):AC Tryz.prog 59 [.own 0] [(0,rowL 1 cstr l)] (.own 1) [(1,rowL 1 cstr (compToS l l.length)),(0,.gone)]:=by
 refine AC.of_awp_move (T:=T) T_ok hm Tryz.call59 Tryz.func59 rfl rfl rfl rfl ?_
 conv=>whnf
 refine⟨fun h=>?_,fun h=>?_⟩<;>(try simp only[Q0,Q1,Q2,Q3,Q4,Q5,Q6,Q7,Q8,reduceCtorEq]at h)<;>(conv=>whnf)
 ·have e:compToS l l.length=l:=by
   rw[Z6m (qL _) (fun j h1 h2=>by omega),List.take_length]
  rw[e];exact⟨rfl,fun i hi=>PSubs.rfl⟩
 refine loop_k (ι:=Nat) [0] [] (fun k=>1<=k∧k<=l.length∧∀j,1<=j->j<k->l.getD j default≠l.getD (j-1) default) (fun k=>l.length-k) 1 (fun k=>[(3,.pv (vint k))]) (fun _=>[(0,rowL 1 cstr l)]) [] ⟨qL _,by omega,fun j h1 h2=>by omega⟩ ?_ (fun k hk=>?_)
 ·(repeat'(first|exact QC|refine qa ?_ ?_))
  intro i hi;exact PSubs.rfl
 obtain⟨h1,h2,hinv⟩:=hk
 conv=>whnf
 have hk0:compToS l k=l.take k:=Z6m h2 hinv
 repeat(any_goals((first|refine⟨QT ?_,QF ?_⟩<;>intro h<;>(try simp only[Q0,Q1,Q2,Q3,Q4,Q5,Q6,Q7,Q8,reduceCtorEq]at h)|refine QI ?_|refine QK ?_|refine .inl ⟨wrap64 (by omega),?_⟩)<;>conv=>whnf))
 ·rename_i hlt
  try simp only[Q0,Q4]at h
  have hkm:((k:Int)-1).toNat=k-1:=by omega
  rw[hkm]at h;have hk1:compToS l (k+1)=l.take k:=by
   rw[compToS,qJ (not_or.2 ⟨by omega,fun hn=>hn h⟩),hk0]
  refine loop_k (ι:=Nat×(Nat->ByteArray)) [0,4] [] (fun x=>1<=x.1∧x.1<=l.length-k∧(compToS l (k+x.1)).length<=k+x.1-1∧(∀j,j<(compToS l (k+x.1)).length->x.2 j=(compToS l (k+x.1)).getD j default)∧∀j,k+x.1-1<=j->j<l.length->x.2 j=l.getD j default)
   (fun x=>l.length-k-x.1) (1,fun j=>l.getD j default) (fun x=>[(3,.pv (vint (compToS l (k+x.1)).length)),(5,.pv (vint x.1))]) (fun x=>[(0,.row 1 l.length fun i=>cstr (x.2 i))]) [] ⟨qL _,by simp only;omega,?_,?_,fun j _ _=>rfl⟩ ?_ (fun x hx=>?_)
  ·simp only[hk1,qq];omega
  ·intro j hj;simp only[hk1,qq]at hj ⊢;simp[List.getD,qm,show j<k from by omega]
  ·(repeat'(first|exact QC|refine qa ?_ ?_))
   ·intro i hi;exact PSubs.rfl
   refine PSub.int ?_;simp only[hk1,qq];omega
  obtain⟨k2,G⟩:=x;obtain⟨j1,j2,hC,hG,hL⟩:=hx;simp only at j1 j2 hC hG hL;have hCs:compToS l (k+(k2+1))=if l.getD (k+k2) default≠l.getD (k+k2-1) default then compToS l (k+k2) ++ [l.getD (k+k2) default]else compToS l (k+k2):=by
   rw[show k+(k2+1)=k+k2+1 from rfl,compToS]
   by_cases e:l.getD (k+k2) default≠l.getD (k+k2-1) default
   ·rw[qK (.inr e),qK e]
   rw[qJ (not_or.2 ⟨by omega,e⟩),qJ e]
  have e2:(((k2:Nat):Int)-1).toNat=k2-1:=by omega
  dsimp only
  conv=>whnf
  repeat(any_goals((first|refine⟨QT ?_,QF ?_⟩<;>intro h<;>(try simp only[Q0,Q1,Q2,Q3,Q4,Q5,Q6,Q7,Q8,reduceCtorEq]at h)|refine QI ?_|refine QK ?_|refine .inl ⟨wrap64 (by omega),?_⟩)<;>conv=>whnf))
  ·rw[e2]at h
   try simp only[Q1]at h
   rw[hL _ (by omega) (by omega),hL _ (by omega) (by omega),show k+(k2-1)=k+k2-1 from by omega]at h;rw[if_pos h]at hCs;refine⟨(k2+1,fun j=>if j=(compToS l (k+k2)).length then l.getD (k+k2) default else G j),[],⟨?_,?_,?_,?_,?_⟩,by dsimp only;omega,?_⟩
   ·dsimp only;omega
   ·dsimp only;omega
   ·simp only[hCs,ql,List.length_singleton];omega
   ·intro j hj;simp only[hCs,ql,List.length_singleton]at hj ⊢
    by_cases e:j=(compToS l (k+k2)).length
    ·subst e;simp[List.getD]
    rw[qJ e,hG j (by omega)];simp[List.getD,qr (show j<(compToS l (k+k2)).length from by omega)]
   ·intro j h3 h4;dsimp only at h3 ⊢;rw[if_neg (by omega)];exact hL j (by omega) h4
   dsimp only;rw[hCs];(repeat'(first|exact QC|refine And.intro ?_ ?_))
   ·intro j hj;have:=Zto (G:=G) (i:=(compToS l (k+k2)).length) (x:=l.getD (k+k2) default) j hj;rw[<-hL (k+k2) (by omega) (by omega)]at this ⊢;exact this
   refine PSub.int ?_;simp
  ·rw[e2]at h
   try simp only[Q0]at h
   rw[hL _ (by omega) (by omega),hL _ (by omega) (by omega),show k+(k2-1)=k+k2-1 from by omega]at h;rw[if_neg (fun hn=>hn h)]at hCs;refine⟨(k2+1,G),[],⟨?_,?_,?_,?_,?_⟩,by dsimp only;omega,?_⟩
   ·dsimp only;omega
   ·dsimp only;omega
   ·simp only[hCs];omega
   ·intro j hj;simp only[hCs]at hj ⊢;exact hG j hj
   ·intro j h3 h4;dsimp only at h3 ⊢;exact hL j (by omega) h4
   dsimp only;rw[hCs];(repeat'(first|exact QC|refine And.intro ?_ ?_));intro i hi;exact PSubs.rfl
  have e3:k+k2=l.length:=by omega
  rw[e3]at hG hC ⊢;refine⟨by simp,fun j hj=>?_⟩;rw[Z6u,qJ (by simp;omega)];simp only[hG j hj];exact PSubs.rfl
 ·refine⟨k+1,[],⟨by omega,by omega,fun j h3 h4=>?_⟩,by omega,?_⟩
  ·by_cases e:j=k
   ·subst e
    try simp only[Q1,Q4]at h
    rw[show((j:Int)-1).toNat=j-1 from by omega]at h;exact h
   exact hinv j h3 (by omega)
  (repeat'(first|exact QC|refine qa ?_ ?_));intro i hi;exact PSubs.rfl
 have e:k=l.length:=by omega
 subst e;rw[hk0,List.take_length];exact⟨rfl,fun i hi=>PSubs.rfl⟩
set_option maxHeartbeats 1000000 in
theorem Zcn(l:List Write)(a m b:Nat)(isB:Bool)(D:List PV->Prop)(gb:List PV->Bool)(gi:List PV->Int)(hl:l.length<=1048576)(ham:a<m)(hmb:m<b)(hb:b<=l.length) :
  AC Tryz.prog 156 [.own 900000,.pv (vint a),.pv (vint m),.pv (vint b),.clo D isB gb gi] [(900000,rowL 10 cWrite l)] (.pv (.tup [])) [(900000,rowL 10 cWrite (rot l a m b))]:=by
 refine AC.of_awp_gen (T:=T) T_ok hm Tryz.call156 Tryz.func156 rfl rfl rfl rfl rfl rfl ?_
 conv=>whnf
 repeat(any_goals((first|refine .inl ⟨wrap64 (by omega),?_⟩)<;>conv=>whnf))
 refine loop_k (ι:=Nat×Nat×List Write) [0,2,4] [] (fun x=>(0<x.1∧x.1<=m∧0<x.2.1∧m+x.2.1<=l.length∧x.2.2.length=l.length)∧rot x.2.2 (m-x.1) m (m+x.2.1)=rot l a m b) (fun x=>x.1+x.2.1) (m-a,b-m,l) (fun x=>[(10,.pv (vint x.1)),(11,.pv (vint x.2.1))]) (fun x=>[(900000,rowL 10 cWrite x.2.2)]) [] ⟨⟨by dsimp only;omega,by dsimp only;omega,by dsimp only;omega,by dsimp only;omega,rfl⟩,by dsimp only;rw[show m-(m-a)=a from by omega,show m+(b-m)=b from by omega]⟩ ?_ (fun x hk=>?_)
 ·(repeat'(first|exact QC|refine qa ?_ ?_))
  ·intro i hi;exact PSubs.rfl
  ·exact PSub.int (by dsimp only;omega)
  exact PSub.int (by dsimp only;omega)
 obtain⟨i,j,cur⟩:=x;obtain⟨⟨hi0,him,hj0,hj,hcl⟩,hinv⟩:=hk;dsimp only at hi0 him hj0 hj hcl hinv;have e1:((m-i:Nat):Int)=(m:Int)-i:=by omega
 have e2:((m+j-i:Nat):Int)=(m:Int)+j-i:=by omega
 have c1:=fun(h:j<i)=>Z8m cur (m-i) m j isB D gb gi (by omega) (by omega) (by omega)
 have c2:=fun(h:i<j)=>Z8m cur (m-i) (m+j-i) i isB D gb gi (by omega) (by omega) (by omega)
 have c3:=fun(h:i=j)=>Z8m cur (m-i) m i isB D gb gi (by omega) (by omega) (by omega)
 rw[e1]at c1 c3;rw[e1,e2]at c2;dsimp only
 conv=>whnf
 repeat(any_goals((first|refine⟨QT ?_,QF ?_⟩<;>intro h<;>(try simp only[Q0,Q1,Q2,Q3,Q4,Q5,Q6,Q7,Q8,reduceCtorEq]at h)|refine .inr (.inr (.inr (.inr ⟨[(900000,900000)],[],_,_,_,c1 (by omega),rfl,?_⟩)))|refine .inr (.inr (.inr (.inr ⟨[(900000,900000)],[],_,_,_,c2 (by omega),rfl,?_⟩)))|refine .inr (.inr (.inr (.inr ⟨[(900000,900000)],[],_,_,_,c3 (by omega),rfl,?_⟩)))|refine .inl ⟨wrap64 (by omega),?_⟩)<;>conv=>whnf))
 ·have h1:j<i:=by omega
  have hsl:=Z1m cur (m-i) m j;refine⟨(i-j,j,swpTo cur (m-i) m j),[],⟨⟨by dsimp only;omega,by dsimp only;omega,by dsimp only;omega,by dsimp only;omega,by dsimp only;omega⟩,by dsimp only;rw[Ztj him (by omega) h1];exact hinv⟩,by dsimp only;omega,?_⟩;(repeat'(first|exact QC|refine And.intro ?_ ?_))
  ·intro i hi;exact PSubs.rfl
  exact PSub.int (by dsimp only;omega)
 ·have h1:i<j:=by omega
  have hsl:=Z1m cur (m-i) (m+j-i) i;refine⟨(i,j-i,swpTo cur (m-i) (m+j-i) i),[],⟨⟨by dsimp only;omega,by dsimp only;omega,by dsimp only;omega,by dsimp only;omega,by dsimp only;omega⟩,by dsimp only;rw[Ztl him (by omega) h1];exact hinv⟩,by dsimp only;omega,?_⟩;(repeat'(first|exact QC|refine And.intro ?_ ?_))
  ·intro i hi;exact PSubs.rfl
  exact PSub.int (by dsimp only;omega)
 have h1:i=j:=by omega
 subst h1;rw[<-hinv,<-Zti him (by omega)];refine⟨rfl,[],?_⟩;(repeat'(first|exact QC|refine qa ?_ ?_));intro i hi;exact PSubs.rfl
def cmpD:List PV->Prop:=fun xs=>∃x y:Write,xs = [.agg (cWrite x),.agg (cWrite y)]
def CmpS(gi:List PV->Int)(lt:Write->Write->Bool):Prop:=∀x y:Write,decide (gi [.agg (cWrite x),.agg (cWrite y)]<0)=lt x y
set_option maxHeartbeats 1000000 in
theorem Zcm(l:List Write)(a b:Nat)(gb:List PV->Bool)(gi:List PV->Int)(lt:Write->Write->Bool)(hw:SWO lt)(hc:CmpS gi lt)(hl:l.length<=1048576)(hab:a<=b)(hb:b<=l.length) :
  AC Tryz.prog 99 [.own 900000,.pv (vint a),.pv (vint b),.clo cmpD false gb gi] [(900000,rowL 10 cWrite l)] (.pv (.tup [])) [(900000,rowL 10 cWrite (srtSeg lt l a b))]:=by
 refine AC.of_awp_gen (T:=T) T_ok hm Tryz.call99 Tryz.func99 rfl rfl rfl rfl rfl rfl ?_
 conv=>whnf
 repeat(any_goals((first|refine .inl ⟨wrap64 (by omega),?_⟩)<;>conv=>whnf))
 refine loop_k (ι:=Nat) [0,1,2,3] [] (fun i=>a+1<=i∧(i<=b∨i=a+1)) (fun i=>b-i) (a+1) (fun i=>[(8,.pv (vint i))]) (fun i=>[(900000,rowL 10 cWrite (srtSeg lt l a (min i b)))]) [] ⟨by omega,by omega⟩ ?_ (fun i hk=>?_)
 ·rw[Z1k hw (by omega) (by omega) (fun p q p1 p2 p3=>by omega)];(repeat'(first|exact QC|refine qa ?_ ?_));intro i hi;exact PSubs.rfl
 obtain⟨hi1,hi2⟩:=hk
 conv=>whnf
 repeat(any_goals((first|refine⟨QT ?_,QF ?_⟩<;>intro h<;>(try simp only[Q0,Q1,Q2,Q3,Q4,Q5,Q6,Q7,Q8,reduceCtorEq]at h))<;>conv=>whnf))
 ·have hib:i<b:=by omega
  have hmin:min i b=i:=by omega
  rw[hmin];have hsl:=Z0y (lt:=lt) (l:=l) (a:=a) (b:=i) (by omega) (by omega);refine loop_k (ι:=Nat) [0,1,2,3,8] [] (fun j=>a<=j∧j<=i∧∀q,j<=q->q<i->lt (l.getD i default) ((srtSeg lt l a i).getD q default)=true) (fun j=>j) i (fun j=>[(9,.pv (vint j))]) (fun j=>[(900000,rowL 10 cWrite (rot (srtSeg lt l a i) j i (i+1)))]) [] ⟨by omega,by omega,fun q q1 q2=>by omega⟩ ?_ (fun j hj=>?_)
  ·rw[Zhb (by omega)];(repeat'(first|exact QC|refine qa ?_ ?_));intro i hi;exact PSubs.rfl
  obtain⟨hj1,hj2,hj3⟩:=hj;have hrl:=Z0f (srtSeg lt l a i) j i (i+1)
  conv=>whnf
  repeat(any_goals((first|refine⟨QT ?_,QF ?_⟩<;>intro h<;>(try simp only[Q0,Q1,Q2,Q3,Q4,Q5,Q6,Q7,Q8,reduceCtorEq]at h)|refine QI ?_|refine QK ?_|refine .inl ⟨wrap64 (by omega),?_⟩)<;>conv=>whnf))
  ·refine qa ⟨_,_,rfl⟩ ?_;have ht:(↑j-1:Int).toNat=j-1:=by omega
   have hja:a<j:=by omega
   have hx:(rot (srtSeg lt l a i) j i (i+1)).getD j default=l.getD i default:=by
    rw[Z08 (by omega),qK (by omega),Z0x (by omega) (by omega),qJ (by omega),qJ (by omega)];congr 1;omega
   have hy:(rot (srtSeg lt l a i) j i (i+1)).getD (j-1) default=(srtSeg lt l a i).getD (j-1) default:=by
    rw[Z08 (by omega),qJ (by omega),qJ (by omega)]
   rw[ht]
   conv=>whnf
   repeat(any_goals((first|refine⟨QT ?_,QF ?_⟩<;>intro h<;>(try simp only[Q0,Q1,Q2,Q3,Q4,Q5,Q6,Q7,Q8,reduceCtorEq]at h)|refine QI ?_|refine QK ?_|refine .inl ⟨wrap64 (by omega),?_⟩)<;>conv=>whnf))
   ·have h2:=(hc ((rot (srtSeg lt l a i) j i (i+1)).getD j default) ((rot (srtSeg lt l a i) j i (i+1)).getD (j-1) default)).symm.trans (qB h);rw[hx,hy]at h2;rw[ht];refine⟨j-1,[],⟨by omega,by omega,fun q q1 q2=>?_⟩,by omega,?_⟩
    ·by_cases e:q=j-1
     ·rw[e];exact h2
     exact hj3 q (by omega) q2
    rw[<-Zh9 (by omega) hj2 (by omega)];have hr:=fun q=>Z65 (l:=rot (srtSeg lt l a i) j i (i+1)) (i:=j) (j:=j-1) (by omega) (by omega) q
    (repeat'(first|exact QC|refine qa ?_ ?_))
    ·rw[Z1s]
    ·intro q hq;exact hr q
    exact PSub.int (by omega)
   have h2:=(hc ((rot (srtSeg lt l a i) j i (i+1)).getD j default) ((rot (srtSeg lt l a i) j i (i+1)).getD (j-1) default)).symm.trans (qG h);rw[hx,hy]at h2;rw[Zf9 hw hj1 hj2 (by omega) hj3 (fun _=>h2)];refine⟨i+1,[],⟨by omega,by omega⟩,by omega,?_⟩;rw[show min (i+1) b=i+1 from by omega];(repeat'(first|exact QC|refine qa ?_ ?_))
   all_goals(intro q hq;exact PSubs.rfl)
  rw[Zf9 hw hj1 hj2 (by omega) hj3 (fun x=>by omega)];refine⟨i+1,[],⟨by omega,by omega⟩,by omega,?_⟩;rw[show min (i+1) b=i+1 from by omega];(repeat'(first|exact QC|refine qa ?_ ?_))
  all_goals(intro q hq;exact PSubs.rfl)
 rw[show min i b=b from by omega];refine⟨rfl,[],?_⟩;(repeat'(first|exact QC|refine qa ?_ ?_));intro i hi;exact PSubs.rfl
section
variable {α:Type} [Inhabited α] {lt:α->α->Bool}
theorem rot_up{l:List α}{a k:Nat}(h1:a<=k)(h2:k+1<l.length):swp (rot l a (a+1) (k+1)) k (k+1)=rot l a (a+1) (k+2):=by
 have hl:=Z0f l a (a+1) (k+1);refine Z0w (by rw[Z1s,hl,Z0f]) fun q hq=>?_
 rw[Z1s,hl]at hq;rw[Z4w (by omega) (by omega),Z08 (q:=k) (by omega),Z08 (q:=k+1) (by omega),Z08 (q:=q) (by omega),Z08 (q:=q) (by omega)]
 by_cases e1:q=k+1
 ·subst e1;rw[qK rfl,qJ (by omega),qK (by omega),qJ (by omega),qK (by omega)];congr 1;omega
 rw[qJ e1]
 by_cases e2:q=k
 ·subst e2;rw[qK rfl,qJ (by omega),qJ (by omega),qK (by omega)];congr 1;omega
 rw[qJ e2]
 by_cases c:a<=q∧q<k
 ·rw[qK (by omega),qK (by omega)]
 rw[qJ (by omega),qJ (by omega),qJ (by omega),qJ (by omega)]
theorem Ztk{l:List α}{a:Nat}(h:a<l.length):rot l a (a+1) (a+1)=l:=by
 refine Z0w (Z0f _ _ _ _) fun q hq=>?_
 rw[Z0f]at hq;rw[Z08 hq,qJ (by omega)]
 by_cases c:a+(a+1-(a+1))<=q∧q<a+1
 ·rw[qK c];congr 1;omega
 rw[qJ c]
theorem Zha{l:List α}{s m e:Nat}(hsm:s<=m)(hme:m<=e)(h:s=m∨m=e):rot l s m e=l:=by
 refine Z0w (Z0f _ _ _ _) fun q hq=>?_
 rw[Z0f]at hq;rw[Z08 hq]
 by_cases c1:s<=q∧q<s+(e-m)
 ·rw[qK c1];congr 1;omega
 rw[qJ c1]
 by_cases c2:s+(e-m)<=q∧q<e
 ·rw[qK c2];congr 1;omega
 rw[qJ c2]
theorem Zhc{l:List α}{a m b s e mid:Nat}(has:a<=s)(hsm:s<=m)(hme:m<=e)(heb:e<=b)(hb:b<=l.length)(hmid:mid=s+(e-m))(hL:srtO lt l a m)(hR:srtO lt l m b) :
  srtO lt (rot l s m e) a s∧srtO lt (rot l s m e) s mid∧srtO lt (rot l s m e) mid e∧srtO lt (rot l s m e) e b:=by
 subst hmid;have g1:∀x,x<s->(rot l s m e).getD x default=l.getD x default:=fun x hx=>by rw[Z08 (by omega),qJ (by omega),qJ (by omega)]
 have g2:∀x,s<=x->x<s+(e-m)->(rot l s m e).getD x default=l.getD (m+(x-s)) default:=fun x h1 h2=>by rw[Z08 (by omega),qK ⟨h1,h2⟩]
 have g3:∀x,s+(e-m)<=x->x<e->(rot l s m e).getD x default=l.getD (s+(x-(s+(e-m)))) default:=fun x h1 h2=>by rw[Z08 (by omega),qJ (by omega),qK ⟨h1,h2⟩]
 have g4:∀x,e<=x->x<b->(rot l s m e).getD x default=l.getD x default:=fun x h1 h2=>by rw[Z08 (by omega),qJ (by omega),qJ (by omega)]
 refine⟨fun p q p1 p2 p3=>?_,fun p q p1 p2 p3=>?_,fun p q p1 p2 p3=>?_,fun p q p1 p2 p3=>?_⟩
 ·rw[g1 p (by omega),g1 q p3];exact hL p q p1 p2 (by omega)
 ·rw[g2 p p1 (by omega),g2 q (by omega) p3];exact hR _ _ (by omega) (by omega) (by omega)
 ·rw[g3 p p1 (by omega),g3 q (by omega) p3];exact hL _ _ (by omega) (by omega) (by omega)
 rw[g4 p p1 (by omega),g4 q (by omega) p3];exact hR _ _ (by omega) p2 p3
end
theorem half64(n:Nat)(s:Int)(hs:s=n)(h:n<=4294967296):IntKind.i64.wrap ((IntKind.u64.wrap s).fdiv (2 ^ min (Int.toNat 1) IntKind.u64.bits))=((n / 2:Nat):Int):=by
 subst hs;have e1:IntKind.u64.wrap (n:Int)=n:=by simp[IntKind.wrap,IntKind.bits,IntKind.signed];omega
 have e2:(2:Int) ^ min (Int.toNat 1) IntKind.u64.bits=2:=by decide
 rw[e1,e2,Int.fdiv_eq_ediv_of_nonneg _ (by omega),IntKind.wrap_i64];omega
set_option maxHeartbeats 2000000 in
theorem Zmy(gb:List PV->Bool)(gi:List PV->Int)(lt:Write->Write->Bool)(hw:SWO lt)(hc:CmpS gi lt)(N:Nat):∀(l:List Write) (a m b:Nat),b-a<=N->l.length<=1048576->a<m->m<b->b<=l.length->srtO lt l a m->srtO lt l m b->
  AC Tryz.prog 100 [.own 900000,.pv (vint a),.pv (vint m),.pv (vint b),.clo cmpD false gb gi] [(900000,rowL 10 cWrite l)] (.pv (.tup [])) [(900000,rowL 10 cWrite (srtSeg lt l a b))]:=by
 induction N with
 |zero=>intro l a m b h1 h2 h3 h4;omega
 |succ N ih=>
 intro l a m b hN hl ham hmb hb hL hR;have hle:=fun p q=>Z2q hw hR (p:=p) (q:=q)
 have hleL:=fun p q=>Z2q hw hL (p:=p) (q:=q)
 refine AC.of_awp_gen (T:=T) T_ok hm Tryz.call100 Tryz.func100 rfl rfl rfl rfl rfl rfl ?_
 conv=>whnf
 repeat(any_goals((first|refine⟨QT ?_,QF ?_⟩<;>intro h<;>(try simp only[Q0,Q1,Q2,Q3,Q4,Q5,Q6,Q7,Q8,reduceCtorEq]at h)|refine QI ?_|refine .inl ⟨wrap64 (by omega),?_⟩)<;>conv=>whnf))
 ·have hma:m=a+1:=by omega
  subst hma;refine loop_k (ι:=Nat×Nat) [0,1,2,3,4] [900000] (fun x=>(a+1<=x.1∧x.1<=x.2∧x.2<=b)∧(∀q,a+1<=q->q<x.1->lt (l.getD q default) (l.getD a default)=true)∧∀q,x.2<=q->q<b->lt (l.getD q default) (l.getD a default)=false) (fun x=>x.2-x.1) (a+1,b) (fun x=>[(10,.pv (vint x.1)),(11,.pv (vint x.2))]) (fun x=>[]) [] ⟨⟨by dsimp only;omega,by dsimp only;omega,by dsimp only;omega⟩,fun q q1 q2=>by dsimp only at q2;omega,fun q q1 q2=>by dsimp only at q1;omega⟩ ?_ (fun x hk=>?_)
  ·(repeat'(first|exact QC|refine qa ?_ ?_))
   all_goals(intro q hq;exact PSubs.rfl)
  obtain⟨i,j⟩:=x;obtain⟨⟨hi,hij,hj⟩,h1,h2⟩:=hk;dsimp only at hi hij hj h1 h2 ⊢
  conv=>whnf
  repeat(any_goals((first|refine⟨QT ?_,QF ?_⟩<;>intro h<;>(try simp only[Q0,Q1,Q2,Q3,Q4,Q5,Q6,Q7,Q8,reduceCtorEq]at h)|refine QI ?_|refine QK ?_|refine .inl ⟨wrap64 (by omega),?_⟩)<;>conv=>whnf))
  ·rw[half64 (i+j) _ (by omega) (by omega)];obtain⟨c,hcd⟩:∃c,c=(i+j) / 2:=⟨_,rfl⟩;rw[<-hcd]
   repeat(any_goals((first|refine QI ?_)<;>conv=>whnf))
   refine qa ⟨_,_,rfl⟩ ?_
   conv=>whnf
   repeat(any_goals((first|refine⟨QT ?_,QF ?_⟩<;>intro h<;>(try simp only[Q0,Q1,Q2,Q3,Q4,Q5,Q6,Q7,Q8,reduceCtorEq]at h)|refine QK ?_|refine .inl ⟨wrap64 (by omega),?_⟩)<;>conv=>whnf))
   ·have h3:=(hc (l.getD c default) (l.getD a default)).symm.trans (decide_eq_true h);refine⟨(c+1,j),[],⟨⟨by dsimp only;omega,by dsimp only;omega,by dsimp only;omega⟩,fun q q1 q2=>?_,h2⟩,by dsimp only;omega,?_⟩
    ·dsimp only at q2;exact hw.le_lt (hle q c q1 (by omega) (by omega)) h3
    (repeat'(first|exact QC|refine qa ?_ ?_))
    all_goals first|exact PSub.int (by dsimp only;omega)|(intro q hq;exact PSubs.rfl)
   have h3:=(hc (l.getD c default) (l.getD a default)).symm.trans (decide_eq_false h);refine⟨(i,c),[],⟨⟨by dsimp only;omega,by dsimp only;omega,by dsimp only;omega⟩,h1,fun q q1 q2=>?_⟩,by dsimp only;omega,?_⟩
   ·dsimp only at q1;exact hw.trans _ _ _ (hle c q (by omega) q1 q2) h3
   (repeat'(first|exact QC|refine qa ?_ ?_))
   all_goals first|exact PSub.int (by dsimp only;omega)|(intro q hq;exact PSubs.rfl)
  have e:i=j:=by omega
  subst e;rw[Zwt hw hi hj hb hR h1 h2];refine loop_k (ι:=Nat) [0,1,2,3,4,10] [] (fun k=>a<=k∧k+1<=i) (fun k=>i-k) a (fun k=>[(13,.pv (vint k))]) (fun k=>[(900000,rowL 10 cWrite (rot l a (a+1) (k+1)))]) [] ⟨by omega,by omega⟩ ?_ (fun k hk=>?_)
  ·rw[Ztk (by omega)];(repeat'(first|exact QC|refine qa ?_ ?_))
   all_goals(intro q hq;exact PSubs.rfl)
  obtain⟨k1,k2⟩:=hk;have hrl:=Z0f l a (a+1) (k+1)
  conv=>whnf
  repeat(any_goals((first|refine⟨QT ?_,QF ?_⟩<;>intro h<;>(try simp only[Q0,Q1,Q2,Q3,Q4,Q5,Q6,Q7,Q8,reduceCtorEq]at h)|refine QI ?_|refine QK ?_|refine .inl ⟨wrap64 (by omega),?_⟩)<;>conv=>whnf))
  ·have ht:(↑k+1:Int).toNat=k+1:=by omega
   refine⟨k+1,[],⟨by omega,by omega⟩,by omega,?_⟩;rw[<-rot_up (by omega) (by omega)];have hr:=fun q=>Z65 (l:=rot l a (a+1) (k+1)) (i:=k) (j:=k+1) (by omega) (by omega) q
   (repeat'(first|exact QC|refine qa ?_ ?_))
   ·rw[Z1s]
   intro q hq;exact hr q
  have e:k+1=i:=by omega
  subst e;refine⟨rfl,[],?_⟩;(repeat'(first|exact QC|refine qa ?_ ?_));intro q hq;exact PSubs.rfl
 ·have hmb2:b=m+1:=by omega
  subst hmb2;refine loop_k (ι:=Nat×Nat) [0,1,2,3,4] [900000] (fun x=>(a<=x.1∧x.1<=x.2∧x.2<=m)∧(∀q,a<=q->q<x.1->lt (l.getD m default) (l.getD q default)=false)∧∀q,x.2<=q->q<m->lt (l.getD m default) (l.getD q default)=true) (fun x=>x.2-x.1) (a,m) (fun x=>[(14,.pv (vint x.1)),(15,.pv (vint x.2))]) (fun x=>[]) [] ⟨⟨by dsimp only;omega,by dsimp only;omega,by dsimp only;omega⟩,fun q q1 q2=>by dsimp only at q2;omega,fun q q1 q2=>by dsimp only at q1;omega⟩ ?_ (fun x hk=>?_)
  ·(repeat'(first|exact QC|refine qa ?_ ?_))
   all_goals(intro q hq;exact PSubs.rfl)
  obtain⟨i,j⟩:=x;obtain⟨⟨hi,hij,hj⟩,h1,h2⟩:=hk;dsimp only at hi hij hj h1 h2 ⊢
  conv=>whnf
  repeat(any_goals((first|refine⟨QT ?_,QF ?_⟩<;>intro h<;>(try simp only[Q0,Q1,Q2,Q3,Q4,Q5,Q6,Q7,Q8,reduceCtorEq]at h)|refine QI ?_|refine QK ?_|refine .inl ⟨wrap64 (by omega),?_⟩)<;>conv=>whnf))
  ·rw[half64 (i+j) _ (by omega) (by omega)];obtain⟨c,hcd⟩:∃c,c=(i+j) / 2:=⟨_,rfl⟩;rw[<-hcd]
   repeat(any_goals((first|refine QI ?_)<;>conv=>whnf))
   refine qa ⟨_,_,rfl⟩ ?_
   conv=>whnf
   repeat(any_goals((first|refine⟨QT ?_,QF ?_⟩<;>intro h<;>(try simp only[Q0,Q1,Q2,Q3,Q4,Q5,Q6,Q7,Q8,reduceCtorEq]at h)|refine QK ?_|refine .inl ⟨wrap64 (by omega),?_⟩)<;>conv=>whnf))
   ·have h3:=(hc (l.getD m default) (l.getD c default)).symm.trans (decide_eq_false h);refine⟨(c+1,j),[],⟨⟨by dsimp only;omega,by dsimp only;omega,by dsimp only;omega⟩,fun q q1 q2=>?_,h2⟩,by dsimp only;omega,?_⟩
    ·dsimp only at q2;exact hw.trans _ _ _ h3 (hleL q c q1 (by omega) (by omega))
    (repeat'(first|exact QC|refine qa ?_ ?_))
    all_goals first|exact PSub.int (by dsimp only;omega)|(intro q hq;exact PSubs.rfl)
   have h3:=(hc (l.getD m default) (l.getD c default)).symm.trans (decide_eq_true h);refine⟨(i,c),[],⟨⟨by dsimp only;omega,by dsimp only;omega,by dsimp only;omega⟩,h1,fun q q1 q2=>?_⟩,by dsimp only;omega,?_⟩
   ·dsimp only at q1;exact hw.lt_le h3 (hleL c q (by omega) q1 q2)
   (repeat'(first|exact QC|refine qa ?_ ?_))
   all_goals first|exact PSub.int (by dsimp only;omega)|(intro q hq;exact PSubs.rfl)
  have e:i=j:=by omega
  subst e;rw[Zim hw hi hj hb hL h1 h2];refine loop_k (ι:=Nat) [0,1,2,3,4,14] [] (fun k=>i<=k∧k<=m) (fun k=>k) m (fun k=>[(17,.pv (vint k))]) (fun k=>[(900000,rowL 10 cWrite (rot l k m (m+1)))]) [] ⟨by omega,by omega⟩ ?_ (fun k hk=>?_)
  ·rw[Zhb (by omega)];(repeat'(first|exact QC|refine qa ?_ ?_))
   all_goals(intro q hq;exact PSubs.rfl)
  obtain⟨k1,k2⟩:=hk;have hrl:=Z0f l k m (m+1)
  conv=>whnf
  repeat(any_goals((first|refine⟨QT ?_,QF ?_⟩<;>intro h<;>(try simp only[Q0,Q1,Q2,Q3,Q4,Q5,Q6,Q7,Q8,reduceCtorEq]at h)|refine QI ?_|refine QK ?_|refine .inl ⟨wrap64 (by omega),?_⟩)<;>conv=>whnf))
  ·have ht:(↑k-1:Int).toNat=k-1:=by omega
   rw[ht];refine⟨k-1,[],⟨by omega,by omega⟩,by omega,?_⟩;rw[<-Zh9 (by omega) k2 (by omega)];have hr:=fun q=>Z65 (l:=rot l k m (m+1)) (i:=k) (j:=k-1) (by omega) (by omega) q
   (repeat'(first|exact QC|refine qa ?_ ?_))
   ·rw[Z1s]
   ·intro q hq;exact hr q
   exact PSub.int (by omega)
  have e:k=i:=by omega
  subst e;refine⟨rfl,[],?_⟩;(repeat'(first|exact QC|refine qa ?_ ?_));intro q hq;exact PSubs.rfl
 rw[half64 (a+b) _ (by omega) (by omega)];obtain⟨b1,b2,b3,b4,b5⟩:=Zbc ham hmb;have hd1:=fun c c'=>Zil hw ham hmb hL hR (c:=c) (c':=c')
 have hd2:=fun c c'=>Zwr hw ham hmb hL hR (c:=c) (c':=c')
 have hfd:=fun s=>Zws (s:=s) hw ham hmb hb hL hR
 have hq:∀c,symQ lt l a m b c=lt (l.getD ((a+b) / 2+m-1-c) default) (l.getD c default):=fun c=>rfl
 have elo:symLo a m b=if(a+b) / 2<m then(a+b) / 2+m-b else a:=rfl
 have ehi:symHi a m b=if(a+b) / 2<m then(a+b) / 2 else m:=rfl
 have hm1:a<=(a+b) / 2∧(a+b) / 2<b∧b<=2*((a+b) / 2-a)+1+a:=by omega
 generalize (a+b) / 2=mid at *;generalize symLo a m b=lo at *;generalize symHi a m b=hi at *
 repeat(any_goals((first|refine⟨QT ?_,QF ?_⟩<;>intro h<;>(try simp only[Q0,Q1,Q2,Q3,Q4,Q5,Q6,Q7,Q8,reduceCtorEq]at h)|refine .inl ⟨wrap64 (by omega),?_⟩)<;>conv=>whnf))
 ·rw[if_pos (by omega)]at elo ehi;refine loop_k (ι:=Nat×Nat) [0,1,2,3,4,18,19,22] [900000] (fun x=>(lo<=x.1∧x.1<=x.2∧x.2<=hi)∧(∀c,lo<=c->c<x.1->symQ lt l a m b c=false)∧∀c,x.2<=c->c<hi->symQ lt l a m b c=true) (fun x=>x.2-x.1) (lo,hi) (fun x=>[(20,.pv (vint x.1)),(21,.pv (vint x.2))]) (fun x=>[]) [] ⟨⟨by dsimp only;omega,by dsimp only;omega,by dsimp only;omega⟩,fun q q1 q2=>by dsimp only at q2;omega,fun q q1 q2=>by dsimp only at q1;omega⟩ ?_ (fun x hk=>?_)
  ·(repeat'(first|exact QC|refine qa ?_ ?_))
   all_goals first|exact PSub.int (by dsimp only;omega)|(intro q hq;exact PSubs.rfl)
  obtain⟨s,r⟩:=x;obtain⟨⟨hi1,hij,hj⟩,h1,h2⟩:=hk;dsimp only at hi1 hij hj h1 h2 ⊢
  conv=>whnf
  refine⟨fun h=>?_,fun h=>?_⟩<;>(try simp only[Q0,Q1,Q2,Q3,Q4,Q5,Q6,Q7,Q8,reduceCtorEq]at h)<;>(conv=>whnf)
  ·repeat(any_goals((first|refine QI ?_|refine QK ?_|refine .inl ⟨wrap64 (by omega),?_⟩)<;>conv=>whnf))
   rw[half64 (s+r) _ (by omega) (by omega)];obtain⟨c,hcd⟩:∃c,c=(s+r) / 2:=⟨_,rfl⟩;rw[<-hcd];have b6:=b4 c (by omega) (by omega);have ht:(↑mid + ↑m-1 - ↑c:Int).toNat=mid+m-1-c:=by omega
   repeat(any_goals((first|refine QI ?_|refine .inl ⟨wrap64 (by omega),?_⟩)<;>conv=>whnf))
   refine qa ⟨_,_,rfl⟩ ?_;rw[ht]
   conv=>whnf
   repeat(any_goals((first|refine⟨QT ?_,QF ?_⟩<;>intro h<;>(try simp only[Q0,Q1,Q2,Q3,Q4,Q5,Q6,Q7,Q8,reduceCtorEq]at h)|refine QK ?_|refine .inl ⟨wrap64 (by omega),?_⟩)<;>conv=>whnf))
   ·have h3:=(hc (l.getD (mid+m-1-c) default) (l.getD c default)).symm.trans (decide_eq_false h);rw[<-hq]at h3;refine⟨(c+1,r),[],⟨⟨by dsimp only;omega,by dsimp only;omega,by dsimp only;omega⟩,fun q q1 q2=>?_,h2⟩,by dsimp only;omega,?_⟩
    ·dsimp only at q2;exact hd1 c q h3 q1 (by omega) (by omega)
    (repeat'(first|exact QC|refine qa ?_ ?_))
    all_goals first|exact PSub.int (by dsimp only;omega)|(intro q hq;exact PSubs.rfl)
   have h3:=(hc (l.getD (mid+m-1-c) default) (l.getD c default)).symm.trans (decide_eq_true h);rw[<-hq]at h3;refine⟨(s,c),[],⟨⟨by dsimp only;omega,by dsimp only;omega,by dsimp only;omega⟩,h1,fun q q1 q2=>?_⟩,by dsimp only;omega,?_⟩
   ·dsimp only at q1;exact hd2 c q h3 (by omega) q1 q2
   (repeat'(first|exact QC|refine qa ?_ ?_))
   all_goals first|exact PSub.int (by dsimp only;omega)|(intro q hq;exact PSubs.rfl)
  have e:s=r:=by omega
  subst e;have b6:=b5 s hi1 hj;have hfin:=hfd s hi1 hj h1 h2;have hpart:=Zhc (l:=l) (a:=a) (m:=m) (b:=b) (s:=s) (e:=mid+m-s) (mid:=mid) (by omega) (by omega) b6.1 b6.2 hb (by omega) hL hR;have hRl:=Z0f l s m (mid+m-s);have hnil:=Zha (l:=l) (s:=s) (m:=m) (e:=mid+m-s) (by omega) b6.1;have ee:((mid+m-s:Nat):Int)=(mid:Int)+m-s:=by omega
  have c1:=fun(h1:s<m) (h2:m<mid+m-s)=>Zcn l s m (mid+m-s) false cmpD gb gi hl h1 h2 (by omega)
  rw[ee]at c1;rw[<-hfin];obtain⟨R,hRd⟩:∃R,R=rot l s m (mid+m-s):=⟨_,rfl⟩;rw[<-hRd]at hpart hRl hnil c1 ⊢;obtain⟨hR1,hR2,hR3,hR4⟩:=hpart;obtain⟨S,hSd⟩:∃S,S=srtSeg lt R a mid:=⟨_,rfl⟩;have hSl:S.length=R.length:=by rw[hSd];exact Z0y (by omega) (by omega)
  have hS1:srtO lt S mid (mid+m-s):=by rw[hSd];exact Z3t (by omega) (by omega) (.inr (qL _)) hR3
  have hS2:srtO lt S (mid+m-s) b:=by rw[hSd];exact Z3t (by omega) (by omega) (.inr (by omega)) hR4
  have hT:¬(mid<mid+m-s∧mid+m-s<b)->srtSeg lt S mid b=S:=fun h=>by
   rcases Nat.lt_or_ge mid (mid+m-s)with g|g
   ·have g2:mid+m-s=b:=by omega
    rw[g2]at hS1;exact Z1k hw (by omega) (by omega) hS1
   have g2:mid+m-s=mid:=by omega
   rw[g2]at hS2;exact Z1k hw (by omega) (by omega) hS2
  have hS:¬(a<s∧s<mid)->S=R:=fun h=>by
   rw[hSd];refine Z1k hw (by omega) (by omega) ?_;rcases Nat.lt_or_ge a s with g|g
   ·have g2:s=mid:=by omega
    rw[g2]at hR1;exact hR1
   have g2:s=a:=by omega
   rw[g2]at hR2;exact hR2
  have hRe:¬(s<m∧m<mid+m-s)->R=l:=fun h=>hnil (by omega)
  have c2:=fun(h1:a<s) (h2:s<mid)=>ih R a s mid (by omega) (by omega) h1 h2 (by omega) hR1 hR2
  have c3:=fun(h1:mid<mid+m-s) (h2:mid+m-s<b)=>ih S mid (mid+m-s) b (by omega) (by omega) h1 h2 (by omega) hS1 hS2
  rw[<-hSd]at c2;obtain⟨T,hTd⟩:∃T,T=srtSeg lt S mid b:=⟨_,rfl⟩;rw[<-hTd]at c3 hT;rw[ee]at c3;have c2l:=fun(h:¬(s<m∧m<mid+m-s))=>(hRe h)▸c2
  have c3R:=fun(h:¬(a<s∧s<mid))=>(hS h)▸c3
  have c3l:=fun(h:¬(s<m∧m<mid+m-s)) (h':¬(a<s∧s<mid))=>(hRe h)▸(c3R h')
  rw[<-hSd,<-hTd];clear hTd hSd hRd hfin hnil hd1 hd2 hq hfd b4 b5 ih hle hleL
  repeat(any_goals((first|refine⟨QT ?_,QF ?_⟩<;>intro h<;>(try simp only[Q0,Q1,Q2,Q3,Q4,Q5,Q6,Q7,Q8,reduceCtorEq]at h)|refine .inr (.inr (.inr (.inr ⟨[(900000,900000)],[],_,_,_,c1 (by omega) (by omega),rfl,?_⟩)))|refine .inr (.inr (.inr (.inr ⟨[(900000,900000)],[],_,_,_,c2 (by omega) (by omega),rfl,?_⟩)))|refine .inr (.inr (.inr (.inr ⟨[(900000,900000)],[],_,_,_,c2l (by omega) (by omega) (by omega),rfl,?_⟩)))|refine .inr (.inr (.inr (.inr ⟨[(900000,900000)],[],_,_,_,c3 (by omega) (by omega),rfl,?_⟩)))|refine .inr (.inr (.inr (.inr ⟨[(900000,900000)],[],_,_,_,c3R (by omega) (by omega) (by omega),rfl,?_⟩)))|refine .inr (.inr (.inr (.inr ⟨[(900000,900000)],[],_,_,_,c3l (by omega) (by omega) (by omega) (by omega),rfl,?_⟩)))|refine .inl ⟨wrap64 (by omega),?_⟩)<;>conv=>whnf))
  all_goals first
   |(refine⟨rfl,[],?_⟩;(repeat'(first|exact QC|refine qa ?_ ?_));(intro q hq;exact PSubs.rfl))
   |(rw[hT (by omega)];(refine⟨rfl,[],?_⟩;(repeat'(first|exact QC|refine qa ?_ ?_));(intro q hq;exact PSubs.rfl)))
   |(rw[hT (by omega),hS (by omega)];(refine⟨rfl,[],?_⟩;(repeat'(first|exact QC|refine qa ?_ ?_));(intro q hq;exact PSubs.rfl)))
   |(rw[hS (by omega)]at hT;rw[hRe (by omega)]at hT;rw[hT (by omega)];(refine⟨rfl,[],?_⟩;(repeat'(first|exact QC|refine qa ?_ ?_));(intro q hq;exact PSubs.rfl)))
   |(rw[hRe (by omega)]at hS;rw[hT (by omega),hS (by omega)];(refine⟨rfl,[],?_⟩;(repeat'(first|exact QC|refine qa ?_ ?_));(intro q hq;exact PSubs.rfl)))
 rw[if_neg (by omega)]at elo ehi;refine loop_k (ι:=Nat×Nat) [0,1,2,3,4,18,19,22] [900000] (fun x=>(lo<=x.1∧x.1<=x.2∧x.2<=hi)∧(∀c,lo<=c->c<x.1->symQ lt l a m b c=false)∧∀c,x.2<=c->c<hi->symQ lt l a m b c=true) (fun x=>x.2-x.1) (lo,hi) (fun x=>[(20,.pv (vint x.1)),(21,.pv (vint x.2))]) (fun x=>[]) [] ⟨⟨by dsimp only;omega,by dsimp only;omega,by dsimp only;omega⟩,fun q q1 q2=>by dsimp only at q2;omega,fun q q1 q2=>by dsimp only at q1;omega⟩ ?_ (fun x hk=>?_)
 ·(repeat'(first|exact QC|refine qa ?_ ?_))
  all_goals first|exact PSub.int (by dsimp only;omega)|(intro q hq;exact PSubs.rfl)
 obtain⟨s,r⟩:=x;obtain⟨⟨hi1,hij,hj⟩,h1,h2⟩:=hk;dsimp only at hi1 hij hj h1 h2 ⊢
 conv=>whnf
 refine⟨fun h=>?_,fun h=>?_⟩<;>(try simp only[Q0,Q1,Q2,Q3,Q4,Q5,Q6,Q7,Q8,reduceCtorEq]at h)<;>(conv=>whnf)
 ·repeat(any_goals((first|refine QI ?_|refine QK ?_|refine .inl ⟨wrap64 (by omega),?_⟩)<;>conv=>whnf))
  rw[half64 (s+r) _ (by omega) (by omega)];obtain⟨c,hcd⟩:∃c,c=(s+r) / 2:=⟨_,rfl⟩;rw[<-hcd];have b6:=b4 c (by omega) (by omega);have ht:(↑mid + ↑m-1 - ↑c:Int).toNat=mid+m-1-c:=by omega
  repeat(any_goals((first|refine QI ?_|refine .inl ⟨wrap64 (by omega),?_⟩)<;>conv=>whnf))
  refine qa ⟨_,_,rfl⟩ ?_;rw[ht]
  conv=>whnf
  repeat(any_goals((first|refine⟨QT ?_,QF ?_⟩<;>intro h<;>(try simp only[Q0,Q1,Q2,Q3,Q4,Q5,Q6,Q7,Q8,reduceCtorEq]at h)|refine QK ?_|refine .inl ⟨wrap64 (by omega),?_⟩)<;>conv=>whnf))
  ·have h3:=(hc (l.getD (mid+m-1-c) default) (l.getD c default)).symm.trans (decide_eq_false h);rw[<-hq]at h3;refine⟨(c+1,r),[],⟨⟨by dsimp only;omega,by dsimp only;omega,by dsimp only;omega⟩,fun q q1 q2=>?_,h2⟩,by dsimp only;omega,?_⟩
   ·dsimp only at q2;exact hd1 c q h3 q1 (by omega) (by omega)
   (repeat'(first|exact QC|refine qa ?_ ?_))
   all_goals first|exact PSub.int (by dsimp only;omega)|(intro q hq;exact PSubs.rfl)
  have h3:=(hc (l.getD (mid+m-1-c) default) (l.getD c default)).symm.trans (decide_eq_true h);rw[<-hq]at h3;refine⟨(s,c),[],⟨⟨by dsimp only;omega,by dsimp only;omega,by dsimp only;omega⟩,h1,fun q q1 q2=>?_⟩,by dsimp only;omega,?_⟩
  ·dsimp only at q1;exact hd2 c q h3 (by omega) q1 q2
  (repeat'(first|exact QC|refine qa ?_ ?_))
  all_goals first|exact PSub.int (by dsimp only;omega)|(intro q hq;exact PSubs.rfl)
 have e:s=r:=by omega
 subst e;have b6:=b5 s hi1 hj;have hfin:=hfd s hi1 hj h1 h2;have hpart:=Zhc (l:=l) (a:=a) (m:=m) (b:=b) (s:=s) (e:=mid+m-s) (mid:=mid) (by omega) (by omega) b6.1 b6.2 hb (by omega) hL hR;have hRl:=Z0f l s m (mid+m-s);have hnil:=Zha (l:=l) (s:=s) (m:=m) (e:=mid+m-s) (by omega) b6.1;have ee:((mid+m-s:Nat):Int)=(mid:Int)+m-s:=by omega
 have c1:=fun(h1:s<m) (h2:m<mid+m-s)=>Zcn l s m (mid+m-s) false cmpD gb gi hl h1 h2 (by omega)
 rw[ee]at c1;rw[<-hfin];obtain⟨R,hRd⟩:∃R,R=rot l s m (mid+m-s):=⟨_,rfl⟩;rw[<-hRd]at hpart hRl hnil c1 ⊢;obtain⟨hR1,hR2,hR3,hR4⟩:=hpart;obtain⟨S,hSd⟩:∃S,S=srtSeg lt R a mid:=⟨_,rfl⟩;have hSl:S.length=R.length:=by rw[hSd];exact Z0y (by omega) (by omega)
 have hS1:srtO lt S mid (mid+m-s):=by rw[hSd];exact Z3t (by omega) (by omega) (.inr (qL _)) hR3
 have hS2:srtO lt S (mid+m-s) b:=by rw[hSd];exact Z3t (by omega) (by omega) (.inr (by omega)) hR4
 have hT:¬(mid<mid+m-s∧mid+m-s<b)->srtSeg lt S mid b=S:=fun h=>by
  rcases Nat.lt_or_ge mid (mid+m-s)with g|g
  ·have g2:mid+m-s=b:=by omega
   rw[g2]at hS1;exact Z1k hw (by omega) (by omega) hS1
  have g2:mid+m-s=mid:=by omega
  rw[g2]at hS2;exact Z1k hw (by omega) (by omega) hS2
 have hS:¬(a<s∧s<mid)->S=R:=fun h=>by
  rw[hSd];refine Z1k hw (by omega) (by omega) ?_;rcases Nat.lt_or_ge a s with g|g
  ·have g2:s=mid:=by omega
   rw[g2]at hR1;exact hR1
  have g2:s=a:=by omega
  rw[g2]at hR2;exact hR2
 have hRe:¬(s<m∧m<mid+m-s)->R=l:=fun h=>hnil (by omega)
 have c2:=fun(h1:a<s) (h2:s<mid)=>ih R a s mid (by omega) (by omega) h1 h2 (by omega) hR1 hR2
 have c3:=fun(h1:mid<mid+m-s) (h2:mid+m-s<b)=>ih S mid (mid+m-s) b (by omega) (by omega) h1 h2 (by omega) hS1 hS2
 rw[<-hSd]at c2;obtain⟨T,hTd⟩:∃T,T=srtSeg lt S mid b:=⟨_,rfl⟩;rw[<-hTd]at c3 hT;rw[ee]at c3;have c2l:=fun(h:¬(s<m∧m<mid+m-s))=>(hRe h)▸c2
 have c3R:=fun(h:¬(a<s∧s<mid))=>(hS h)▸c3
 have c3l:=fun(h:¬(s<m∧m<mid+m-s)) (h':¬(a<s∧s<mid))=>(hRe h)▸(c3R h')
 rw[<-hSd,<-hTd];clear hTd hSd hRd hfin hnil hd1 hd2 hq hfd b4 b5 ih hle hleL
 repeat(any_goals((first|refine⟨QT ?_,QF ?_⟩<;>intro h<;>(try simp only[Q0,Q1,Q2,Q3,Q4,Q5,Q6,Q7,Q8,reduceCtorEq]at h)|refine .inr (.inr (.inr (.inr ⟨[(900000,900000)],[],_,_,_,c1 (by omega) (by omega),rfl,?_⟩)))|refine .inr (.inr (.inr (.inr ⟨[(900000,900000)],[],_,_,_,c2 (by omega) (by omega),rfl,?_⟩)))|refine .inr (.inr (.inr (.inr ⟨[(900000,900000)],[],_,_,_,c2l (by omega) (by omega) (by omega),rfl,?_⟩)))|refine .inr (.inr (.inr (.inr ⟨[(900000,900000)],[],_,_,_,c3 (by omega) (by omega),rfl,?_⟩)))|refine .inr (.inr (.inr (.inr ⟨[(900000,900000)],[],_,_,_,c3R (by omega) (by omega) (by omega),rfl,?_⟩)))|refine .inr (.inr (.inr (.inr ⟨[(900000,900000)],[],_,_,_,c3l (by omega) (by omega) (by omega) (by omega),rfl,?_⟩)))|refine .inl ⟨wrap64 (by omega),?_⟩)<;>conv=>whnf))
 all_goals first
  |(refine⟨rfl,[],?_⟩;(repeat'(first|exact QC|refine qa ?_ ?_));(intro q hq;exact PSubs.rfl))
  |(rw[hT (by omega)];(refine⟨rfl,[],?_⟩;(repeat'(first|exact QC|refine qa ?_ ?_));(intro q hq;exact PSubs.rfl)))
  |(rw[hT (by omega),hS (by omega)];(refine⟨rfl,[],?_⟩;(repeat'(first|exact QC|refine qa ?_ ?_));(intro q hq;exact PSubs.rfl)))
  |(rw[hS (by omega)]at hT;rw[hRe (by omega)]at hT;rw[hT (by omega)];(refine⟨rfl,[],?_⟩;(repeat'(first|exact QC|refine qa ?_ ?_));(intro q hq;exact PSubs.rfl)))
  |(rw[hRe (by omega)]at hS;rw[hT (by omega),hS (by omega)];(refine⟨rfl,[],?_⟩;(repeat'(first|exact QC|refine qa ?_ ?_));(intro q hq;exact PSubs.rfl)))
open Go.RowKit
variable [Globals]
def rowArgs:List AV->Bool
 | []=>true
 | .pv _::l=>rowArgs l
 | .own _::l=>rowArgs l
 |_::_=>false
theorem Z5v{P:Program}{w:World}{St St' M:Nat->Prop}{σ:Sig}:∀ {l:List AV},rowArgs l=true->∀(i:Nat) (x:AV) (v:Value),l[i]? = some x->AR P w St M σ x v->AR P w St' M σ x v
 | .pv _::l,_,0,x,v,e,h=>by simp at e;subst e;exact .pv _ _ (arg_pv h)
 | .own _::l,_,0,x,v,e,h=>by
  simp at e;subst e;cases h with
  |own _ _ h=>exact .own _ _ h
 | .pv _::l,h,i+1,x,v,e,hA=>Z5v (l:=l) (by simpa[rowArgs]using h) i x v (by simpa using e) hA
 | .own _::l,h,i+1,x,v,e,hA=>Z5v (l:=l) (by simpa[rowArgs]using h) i x v (by simpa using e) hA
def rowsU:Upd->Bool
 | []=>true
 |(_,.gone)::u=>rowsU u
 |(_,.row _ _ _)::u=>rowsU u
 |_::_=>false
theorem Z7m{P:Program}{w:World}{A B M0:Nat->Prop}{σ:Sig}:∀ {u:Upd},rowsU u=true->∀(l:Nat) (o:AObj),getO u l=some o->At P w A M0 σ l o->At P w B M0 σ l o
 |(i,.gone)::u,h,l,o,e,hA=>by
  rw[Z0v]at e
  split at e
  ·cases e;exact hA
  exact Z7m (u:=u) (by simpa[rowsU]using h) l o e hA
 |(i,.row s n f)::u,h,l,o,e,hA=>by
  rw[Z0v]at e
  split at e
  ·cases e;obtain⟨loc,h1,h2⟩:=hA;refine⟨loc,h1,?_⟩;cases h2 with
   |row0 _ _ a=>exact .row0 _ _ a
   |row _ _ _ b cap vs t hb hn hmax hsz hs hh h9=>exact .row _ _ _ b cap vs t hb hn hmax hsz hs hh h9
  exact Z7m (u:=u) (by simpa[rowsU]using h) l o e hA
theorem AC.with_fn_rows{P:Program}{g f:FuncId}{pre post:List AV}{caps:List PV}{dom:List PV->Prop}{isB:Bool}{gb:List PV->Bool}{gi:List PV->Int}{res:AV}{os os':Upd}
  (h:AC P g (pre ++ .clo dom isB gb gi::post) os res os')
  (hcall:∀(vals:Array Value) (w:World),(callFunc f vals).run P w = .ok (.enter f vals) w) (hpre:rowArgs pre=true) (hpost:rowArgs post=true) (ho:rowsU os=true) (ho':rowsU os'=true) (hres:rowArgs [res]=true)
  (hf:∀xs,dom xs->AC P f (xs.map .pv++caps.map .pv) [] (.pv (cloRes isB gb gi xs)) []):AC P g (pre ++ .fn f (caps.map .pv)::post) os res os':=by
 refine⟨h.1,fun St M0 σ w vals hi hσ hos hl hA=>?_⟩;have hinv:Inv (fun b=>b<w.heap.size∧¬owned σ b) M0 σ w:=⟨hi.sep,hi.lt,hi.m0,fun b h=>h,hi.gl⟩;refine(h.2 (fun b=>b<w.heap.size∧¬owned σ b) M0 σ w vals hinv hσ (fun k o e=>Z7m ho k o e (hos k o e)) (by simpa using hl) (fun i x hx=>?_)).mono ?_
 ·by_cases h1:i=pre.length
  ·subst h1;simp at hx;subst hx;have hfv:=hA pre.length (.fn f (caps.map .pv)) (by simp);cases hv:vals.getD pre.length undef with
   |func fn first vs=>_
   |_=>rw[hv]at hfv;cases hfv
   rw[hv]at hfv;cases hfv with
   |fn _ _ _ hlc hcap=>
    refine .clo _ _ _ _ f vs (fun b=>b<w.heap.size∧¬owned σ b) (fun b hb=>⟨hb,hb.1⟩) ⟨hcall,?_⟩;intro w' M xs vs' hd hsz hblk hlen hx;obtain⟨_,hrun⟩:=hf xs hd;have hown:∀b,¬owned (fun _=>none) b:=fun b ⟨l,loc,h,_⟩=>by cases h
    have hsame:Same (Mof M0 σ) w w':=⟨hsz,fun b hb hn=>hblk b ⟨hb,fun h=>hn (.inr h)⟩⟩;have hMF:Mof (fun b=>M b∧w'.heap.size<=b∧False) (fun _=>none)=fun _=>False:=funext fun b=>propext ⟨fun h=>h.elim (fun h=>h.2.2) (fun h=>absurd h (hown b)),False.elim⟩
    refine(hrun (fun b=>b<w'.heap.size) (fun b=>M b∧w'.heap.size<=b∧False) (fun _=>none) w' (vs'++vs) ⟨fun l l' loc loc' b e=>(by cases e),fun b h=>absurd h (hown b),fun b h=>h.2.2.elim,fun b h=>⟨h,hown b⟩,?_⟩ (fun _ _=>rfl) (fun l o e=>by simp[getO]at e) (by simp[hlen];simpa using hlc) (fun j y hy=>?_)).mono ?_
    ·rw[hMF];exact hi.gl.mono hsame (fun b _ h=>h.elim)
    ·rw[hMF];rw[qO]at hy
     split at hy
     ·rename_i hlt;have hlt':j<xs.length:=by simpa using hlt
      rw[Z0b (by omega)];simp at hy;obtain⟨q,hq,rfl⟩:=hy;exact .pv _ _ ((hx j q hq).mono (Same.refl _ w') (fun b _ h=>h.elim))
     rename_i hge;have hge':xs.length<=j:=by simpa using hge
     rw[Z2g (by omega)];have h2:=hcap (j-xs.length) y (by simpa using hy);rw[hlen];simp at hy;obtain⟨q,hq,rfl⟩:=hy;exact .pv _ _ ((arg_pv h2).mono hsame (fun b _ h=>h.elim))
    rintro e w'' ⟨v,σ',rfl,hp⟩
    have hσ:σ'=fun _=>none:=funext fun l=>hp.old l rfl
    subst hσ;have hv2:=arg_pv hp.val;rw[hMF]at hv2;have hext:FExt (fun _=>False) w' w'':=hp.ext.mono (fun i _ ⟨l,loc,h,_⟩=>(h rfl).elim);refine⟨v,rfl,?_,hext⟩;cases isB with
    |true=>
     cases hv2;exact .sb _
    |false=>
     cases hv2;exact .val _
  have h2:(pre++AV.fn f (caps.map .pv)::post)[i]? = some x:=by
   rw[qO]at hx ⊢
   split at hx
   ·rename_i hlt;rw[qK hlt];exact hx
   rename_i hge;rw[qJ hge];have:i-pre.length≠0:=by omega
   cases hk:i-pre.length with
   |zero=>omega
   |succ k=>rw[hk]at hx;simpa using hx
  have hA2:=hA i x h2;rw[qO]at hx
  split at hx
  ·exact Z5v hpre i x _ hx hA2
  rename_i hge;cases hk:i-pre.length with
  |zero=>omega
  |succ k=>rw[hk]at hx;exact Z5v hpost k x _ (by simpa using hx) hA2
 rintro e w' ⟨v,σ',he,hp⟩
 exact⟨v,σ',he,⟨Z5v hres 0 res v rfl hp.val,fun k o e=>Z7m ho' k o e (hp.obj k o e),hp.old,hp.stay,hp.sep,hp.blk,hp.ext.mono fun b _ ⟨k,loc,h1,h2,h3⟩=>⟨k,loc,h1,h2,h3⟩⟩⟩
end Go.Abs
namespace Go.Abs
open Go.Proofs
set_option maxRecDepth 10000
set_option maxHeartbeats 2000000 in
theorem Zmx(l:List Write)(gb:List PV->Bool)(gi:List PV->Int)(lt:Write->Write->Bool)(hw:SWO lt)(hc:CmpS gi lt)(hl:l.length<=1048576) :
  AC Tryz.prog 55 [.own 900000,.pv (vint l.length),.clo cmpD false gb gi] [(900000,rowL 10 cWrite l)] (.pv (.tup [])) [(900000,rowL 10 cWrite (isortR lt l))]:=by
 have sym:=fun k a m b hk h1 h2 h3 h4 h5=>Zmy gb gi lt hw hc b k a m b (Nat.sub_le _ _) hk h1 h2 h3 h4 h5
 refine AC.of_awp_gen (T:=T) T_ok hm Tryz.call55 Tryz.func55 rfl rfl rfl rfl rfl rfl ?_
 conv=>whnf
 refine loop_k (ι:=Nat×List Write) [0,1,2,6] [] (fun x=>(x.2.length=l.length∧x.1<=l.length)∧DoneB lt x.2 20 x.1∧srtSeg lt x.2 0 l.length=srtSeg lt l 0 l.length) (fun x=>l.length-x.1) (0,l) (fun x=>[(7,.pv (vint x.1)),(8,.pv (.val (.int .i64 ((x.1:Int)+20))))]) (fun x=>[(900000,rowL 10 cWrite x.2)]) [] ⟨⟨rfl,qe _⟩,.zero,rfl⟩ ?_ (fun x hk=>?_)
 ·(repeat'(first|exact QC|refine qa ?_ ?_))
  all_goals(intro q hq;exact PSubs.rfl)
 obtain⟨a,cur⟩:=x;obtain⟨⟨hcl,han⟩,hd,hs⟩:=hk;dsimp only at hcl han hd hs ⊢;have c1:=fun(h:a+20<=l.length)=>Zcm cur a (a+20) gb gi lt hw hc (by omega) (by omega) (by omega)
 have c2:=Zcm cur a l.length gb gi lt hw hc (by omega) (by omega) (by omega);rw[show((a+20:Nat):Int)=(a:Int)+20 from by omega]at c1
 conv=>whnf
 refine⟨fun h=>?_,fun h=>?_⟩<;>(try simp only[Q0,Q1,Q2,Q3,Q4,Q5,Q6,Q7,Q8,reduceCtorEq]at h)<;>(conv=>whnf)
 ·repeat(any_goals((first|refine .inr (.inr (.inr (.inr ⟨[(900000,900000)],[],_,_,_,c1 (by omega),rfl,?_⟩)))|refine .inl ⟨wrap64 (by omega),?_⟩)<;>conv=>whnf))
  have hsl:=Z0y (lt:=lt) (l:=cur) (a:=a) (b:=a+20) (by omega) (by omega);refine⟨(a+20,srtSeg lt cur a (a+20)),[],⟨⟨by dsimp only;omega,by dsimp only;omega⟩,Zob hw (by omega) hd,by dsimp only;rw[Z63 hw (Nat.zero_le _) (by omega) (by omega) (by omega)];exact hs⟩,by dsimp only;omega,?_⟩;(repeat'(first|exact QC|refine And.intro ?_ ?_))
  all_goals first|exact PSub.int (by dsimp only;omega)|(intro q hq;exact PSubs.rfl)
 have hr:=Zoc (n:=l.length) hw han (by omega) (show l.length<a+20 by omega) hd;have hsl:=Z0y (lt:=lt) (l:=cur) (a:=a) (b:=l.length) (by omega) (by omega);have hs1:srtSeg lt (srtSeg lt cur a l.length) 0 l.length=srtSeg lt l 0 l.length:=by
  rw[Z63 hw (qe _) (by omega) (qL _) (by omega)];exact hs
 repeat(any_goals((first|refine .inr (.inr (.inr (.inr ⟨[(900000,900000)],[],_,_,_,c2,rfl,?_⟩))))<;>conv=>whnf))
 clear c1 c2 hd hs;generalize srtSeg lt cur a l.length=cur1 at *;refine loop_k (ι:=Nat×List Write) [0,1,2] [] (fun x=>(x.2.length=l.length∧0<x.1∧x.1<=2097152)∧RestB lt x.2 x.1 l.length 0∧srtSeg lt x.2 0 l.length=srtSeg lt l 0 l.length) (fun x=>l.length-x.1) (20,cur1) (fun x=>[(6,.pv (vint x.1))]) (fun x=>[(900000,rowL 10 cWrite x.2)]) [] ⟨⟨by dsimp only;omega,by dsimp only;omega,by dsimp only;omega⟩,hr,hs1⟩ ?_ (fun x hk=>?_)
 ·(repeat'(first|exact QC|refine qa ?_ ?_))
  all_goals(intro q hq;exact PSubs.rfl)
 clear hsl hr hs1 hcl han;obtain⟨B,cur⟩:=x;obtain⟨⟨hcl,hB,hB2⟩,hr,hs⟩:=hk;dsimp only at hcl hB hB2 hr hs ⊢
 conv=>whnf
 refine⟨fun h=>?_,fun h=>?_⟩<;>(try simp only[Q0,Q1,Q2,Q3,Q4,Q5,Q6,Q7,Q8,reduceCtorEq]at h)<;>(conv=>whnf)
 ·repeat(any_goals((first|refine .inl ⟨wrap64 (by omega),?_⟩)<;>conv=>whnf))
  refine loop_k (ι:=Nat×List Write) [0,1,2,6] [] (fun x=>(x.2.length=l.length∧x.1<=l.length)∧DoneB lt x.2 (2*B) x.1∧RestB lt x.2 B l.length x.1∧srtSeg lt x.2 0 l.length=srtSeg lt l 0 l.length) (fun x=>l.length-x.1) (0,cur) (fun x=>[(7,.pv (vint x.1)),(8,.pv (.val (.int .i64 ((x.1:Int)+2*B))))]) (fun x=>[(900000,rowL 10 cWrite x.2)]) [] ⟨⟨hcl,qe _⟩,.zero,hr,hs⟩ ?_ (fun x hk=>?_)
  ·(repeat'(first|exact QC|refine qa ?_ ?_))
   all_goals first|exact PSub.int (by dsimp only;omega)|(intro q hq;exact PSubs.rfl)
  clear hcl hr hs;obtain⟨a,cur⟩:=x;obtain⟨⟨hcl,han⟩,hd,hr,hs⟩:=hk;dsimp only at hcl han hd hr hs ⊢
  conv=>whnf
  refine⟨fun h=>?_,fun h=>?_⟩<;>(try simp only[Q0,Q1,Q2,Q3,Q4,Q5,Q6,Q7,Q8,reduceCtorEq]at h)<;>(conv=>whnf)
  ·obtain⟨q1,q2,q3,q4⟩:=Zod hw hB (by omega) (show a+2*B<=l.length by omega) hd hr;have c1:=sym cur a (a+B) (a+2*B) (by omega) (by omega) (by omega) (by omega) q1 q2;rw[show((a+2*B:Nat):Int)=(a:Int)+2*B from by omega,show((a+B:Nat):Int)=(a:Int)+B from by omega]at c1;have hsl:=Z0y (lt:=lt) (l:=cur) (a:=a) (b:=a+2*B) (by omega) (by omega)
   repeat(any_goals((first|refine .inr (.inr (.inr (.inr ⟨[(900000,900000)],[],_,_,_,c1,rfl,?_⟩)))|refine .inl ⟨wrap64 (by omega),?_⟩)<;>conv=>whnf))
   refine⟨(a+2*B,srtSeg lt cur a (a+2*B)),[],⟨⟨by dsimp only;omega,by dsimp only;omega⟩,q3,q4,by dsimp only;rw[Z63 hw (Nat.zero_le _) (by omega) (by omega) (by omega)];exact hs⟩,by dsimp only;omega,?_⟩;(repeat'(first|exact QC|refine And.intro ?_ ?_))
   all_goals first|exact PSub.int (by dsimp only;omega)|(intro q hq;exact PSubs.rfl)
  have hsl:=Z0y (lt:=lt) (l:=cur) (a:=a) (b:=l.length) (by omega) (by omega);have c1:=fun(h:a+B<l.length)=>(sym cur a (a+B) l.length (by omega) (by omega) (by omega) (by omega) (Z97 hw (by omega) (show l.length<a+2*B by omega) h hd hr).1 (Z97 hw (by omega) (show l.length<a+2*B by omega) h hd hr).2.1)
  rw[show((a+B:Nat):Int)=(a:Int)+B from by omega]at c1
  repeat(any_goals((first|refine⟨QT ?_,QF ?_⟩<;>intro h<;>(try simp only[Q0,Q1,Q2,Q3,Q4,Q5,Q6,Q7,Q8,reduceCtorEq]at h)|refine .inr (.inr (.inr (.inr ⟨[(900000,900000)],[],_,_,_,c1 (by omega),rfl,?_⟩)))|refine .inl ⟨wrap64 (by omega),?_⟩)<;>conv=>whnf))
  ·refine⟨(2*B,srtSeg lt cur a l.length),[],⟨⟨by dsimp only;omega,by dsimp only;omega,by dsimp only;omega⟩,(Z97 hw (by omega) (show l.length<a+2*B by omega) (by omega) hd hr).2.2,by dsimp only;rw[Z63 hw (Nat.zero_le _) (by omega) (by omega) (by omega)];exact hs⟩,by dsimp only;omega,?_⟩;(repeat'(first|exact QC|refine And.intro ?_ ?_))
   all_goals first|exact PSub.int (by dsimp only;omega)|(intro q hq;exact PSubs.rfl)
  refine⟨(2*B,cur),[],⟨⟨by dsimp only;omega,by dsimp only;omega,by dsimp only;omega⟩,Zoa (by omega) hd hr,hs⟩,by dsimp only;omega,?_⟩;(repeat'(first|exact QC|refine And.intro ?_ ?_))
  all_goals first|exact PSub.int (by dsimp only;omega)|(intro q hq;exact PSubs.rfl)
 have e:cur=isortR lt l:=Zuo hw hcl (by rw[hcl];exact hs) (by rw[hcl];exact hr.whole (by omega));rw[<-e];refine⟨rfl,[],?_⟩;(repeat'(first|exact QC|refine qa ?_ ?_));intro q hq;exact PSubs.rfl
theorem Zmu(l:List Write)(gb:List PV->Bool)(gi:List PV->Int)(lt:Write->Write->Bool)(hw:SWO lt)(hc:CmpS gi lt)(hl:l.length<=1048576) :
  AC Tryz.prog 29 [.own 900000,.clo cmpD false gb gi] [(900000,rowL 10 cWrite l)] (.pv (.tup [])) [(900000,rowL 10 cWrite (isortR lt l))]:=by
 refine AC.of_awp_gen (T:=T) T_ok hm Tryz.call29 Tryz.func29 rfl rfl rfl rfl rfl rfl ?_
 conv=>whnf
 repeat(any_goals((first|refine .inr (.inr (.inr (.inr ⟨[(900000,900000)],[],_,_,_,Zmx l gb gi lt hw hc hl,rfl,?_⟩))))<;>conv=>whnf))
 refine⟨rfl,[],?_⟩;(repeat'(first|exact QC|refine qa ?_ ?_));intro q hq;exact PSubs.rfl
theorem Zmv(F:Nat)(hcall:∀(vals:Array Value) (w:World),(callFunc F vals).run Tryz.prog w = .ok (.enter F vals) w)(gi:List PV->Int)(lt:Write->Write->Bool)(hw:SWO lt)(hc:CmpS gi lt)
  (hF:∀x y:Write,AC Tryz.prog F [.pv (.agg (cWrite x)),.pv (.agg (cWrite y))] [] (.pv (vint (gi [.agg (cWrite x),.agg (cWrite y)]))) []) (l:List Write) (hl:l.length<=1048576) :
  AC Tryz.prog 29 [.own 900000,.fn F []] [(900000,rowL 10 cWrite l)] (.pv (.tup [])) [(900000,rowL 10 cWrite (isortR lt l))]:=by
 refine AC.with_fn_rows (caps:=[]) (pre:=[.own 900000]) (post:=[]) (Zmu l (fun _=>false) gi lt hw hc hl) hcall rfl rfl rfl rfl rfl ?_
 rintro xs ⟨x,y,rfl⟩
 exact hF x y
structure TO {α:Type} (E:α->α->Prop) (lt:α->α->Bool):Prop where
 irr:∀a,lt a a=false
 tr:∀a b c,lt a b=true->lt b c=true->lt a c=true
 tot:∀a b,¬E a b->lt a b=true∨lt b a=true
theorem TO.asy{α:Type}{E:α->α->Prop}{lt:α->α->Bool}(h:TO E lt){a b:α}(k:lt a b=true):lt b a=false:=by
 cases e:lt b a with
 |false=>rfl
 |true=>have:=h.tr a b a k e;rw[h.irr]at this;cases this
theorem TO.lex{α β:Type}[DecidableEq β]{E:α->α->Prop}{lt:α->α->Bool}{f:α->β}{lb:β->β->Bool}(hb:TO (fun x y=>x=y) lb)(h:TO E lt) :
  TO (fun a b=>f a=f b∧E a b) (fun a b=>if f a≠f b then lb (f a) (f b)else lt a b):=by
 refine⟨fun a=>?_,fun a b c h1 h2=>?_,fun a b h1=>?_⟩
 ·simp only[Q8,not_true,if_false];exact h.irr a
 ·by_cases e1:f a=f b
  ·rw[qJ (by simpa using e1)]at h1
   by_cases e2:f b=f c
   ·rw[qJ (by simpa using e2)]at h2;rw[qJ (by simpa using e1.trans e2)];exact h.tr _ _ _ h1 h2
   rw[qK e2]at h2;rw[qK (by rw[e1];exact e2),e1];exact h2
  rw[qK e1]at h1
  by_cases e2:f b=f c
  ·rw[qK (by rw[<-e2];exact e1),<-e2];exact h1
  rw[qK e2]at h2;have h3:=hb.tr _ _ _ h1 h2;rw[qK (fun e=>by rw[e,hb.irr]at h3;cases h3)];exact h3
 by_cases e1:f a=f b
 ·rw[qJ (by simpa using e1),qJ (by simpa using e1.symm)];exact h.tot a b fun x=>h1 ⟨e1,x⟩
 rw[qK e1,qK (fun x=>e1 x.symm)];exact hb.tot _ _ e1
theorem TO.pull{α β:Type}{lb:β->β->Bool}(hb:TO (fun x y=>x=y) lb)(f:α->β):TO (fun a b=>f a=f b) (fun a b=>lb (f a) (f b)):=
 ⟨fun a=>hb.irr _,fun a b c=>hb.tr _ _ _,fun a b h=>hb.tot _ _ h⟩
theorem TO.imp{α:Type}{E F:α->α->Prop}{lt lu:α->α->Bool}(h:TO E lt)(hl:∀a b,lt a b=lu a b)(hE:∀a b,E a b->F a b):TO F lu:=
 ⟨fun a=>by rw[<-hl];exact h.irr a,fun a b c h1 h2=>by rw[<-hl]at *;exact h.tr _ _ _ h1 h2,fun a b h1=>by rw[<-hl,<-hl];exact h.tot a b fun x=>h1 (hE _ _ x)⟩
theorem TO.swo{α:Type}{lt:α->α->Bool}(h:TO (fun x y=>x=y) lt):SWO lt:=by
 refine⟨fun a b k=>h.asy k,fun a b c h1 h2=>?_⟩;cases e:lt a c with
 |false=>rfl
 |true=>
  exfalso
  by_cases eb:a=b
  ·subst eb;rw[e]at h2;cases h2
  rcases h.tot _ _ eb with k|k
  ·rw[k]at h1;cases h1
  have:=h.tr _ _ _ k e;rw[this]at h2;cases h2
theorem to_int:TO (fun x y:Int=>x=y) (fun a b=>decide (a<b)):=
 ⟨fun a=>qG (Int.lt_irrefl a),fun a b c h1 h2=>qB (Int.lt_trans (qC h1) (qC h2)),fun a b h=>by
  rcases Int.lt_or_gt_of_ne h with k|k
  ·exact .inl (qB k)
  ·exact .inr (qB k)⟩
theorem Zbf:TO (fun x y:Int=>x=y) (fun a b=>decide (b<a)):=
 ⟨fun a=>to_int.irr a,fun a b c h1 h2=>to_int.tr _ _ _ h2 h1,fun a b h=>(to_int.tot a b h).symm⟩
theorem to_str:TO (fun x y:ByteArray=>x=y) sLt:=⟨Z1r,fun _ _ _=>Z30,fun _ _ h=>Z24 h⟩
theorem to_key:TO (fun x y:Key=>x=y) keyLess:=⟨Z15,fun _ _ _=>Z3h,fun _ _ h=>Z20 h⟩
def vLess(a b:Val):Bool:=if a.kind≠b.kind then decide (a.kind<b.kind)else if a.n≠b.n then decide (a.n<b.n)else sLt a.s b.s
theorem to_val:TO (fun x y:Val=>x=y) vLess:=by
 refine TO.imp (TO.lex (f:=Val.kind) to_int (TO.lex (f:=Val.n) to_int (TO.pull to_str Val.s))) (fun a b=>?_) (fun a b h=>?_)
 ·unfold vLess;rfl
 obtain⟨a1,a2,a3⟩:=a;obtain⟨b1,b2,b3⟩:=b;obtain⟨h1,h2,h3⟩:=h;simp only at h1 h2 h3;subst h1;subst h2;subst h3;rfl
def befW(a b:Write):Bool:=
 if a.cause.kind≠b.cause.kind then decide (b.cause.kind<a.cause.kind)else if a.cause.prio≠b.cause.prio then decide (b.cause.prio<a.cause.prio)
 else if a.cause.name≠b.cause.name then sLt a.cause.name b.cause.name else if a.order≠b.order then decide (b.order<a.order)
 else if a.value≠b.value then vLess a.value b.value else keyLess a.key b.key
theorem to_bef:TO (fun x y:Write=>x=y) befW:=by
 refine TO.imp (TO.lex (f:=fun w:Write=>w.cause.kind) Zbf (TO.lex (f:=fun w:Write=>w.cause.prio) Zbf (TO.lex (f:=fun w:Write=>w.cause.name) to_str (TO.lex (f:=Write.order) Zbf (TO.lex (f:=Write.value) to_val (TO.pull to_key Write.key)))))) (fun a b=>?_) (fun a b h=>?_)
 ·unfold befW;rfl
 obtain⟨a1,a2,⟨a3,a4,a5⟩,a6⟩:=a;obtain⟨b1,b2,⟨b3,b4,b5⟩,b6⟩:=b;obtain⟨h1,h2,h3,h4,h5,h6⟩:=h;simp only at h1 h2 h3 h4 h5 h6;subst h1;subst h2;subst h3;subst h4;subst h5;subst h6;rfl
def ordW(a b:Write):Bool:=if a.key≠b.key then keyLess a.key b.key else befW a b
theorem to_ord:TO (fun x y:Write=>x=y) ordW:=by
 refine TO.imp (TO.lex (f:=Write.key) to_key to_bef) (fun a b=>?_) (fun a b h=>h.2);unfold ordW;rfl
theorem Z7v:SWO ordW:=to_ord.swo
def eK(e:Evt):Key:=⟨e.dev,e.cluster,e.name⟩
structure Hap where
 changed:List Key
 events:List Key
 fr:Int
 to:Int
 mode:ByteArray
 start:Bool
 held:List ByteArray
 deriving Inhabited
def cHap(h:Hap):List PV:=[roL 3 cKey h.changed,roL 3 cKey h.events,vint h.fr,vint h.to,vstr h.mode,vbool h.start,roL 1 cstr h.held]
structure smallHp (h:Hap):Prop where
 c:smallL h.changed
 e:smallL h.events
 h:smallL h.held
def winB(fr to:Int):Bool:=decide (0<=fr∧fr<=to∧to<=1073741824)
def winF(fr to:Int):Int:=if winB fr to=true then max fr (to-1440)else -1
def winT(fr to:Int):Int:=if winB fr to=true then to else -1
def normH(h:Hap):Hap:=⟨sortK h.changed,sortK h.events,winF h.fr h.to,winT h.fr h.to,h.mode,h.start,sortS h.held⟩
def dayA(mask w:Int):Bool:=decide (abits .and .i64 (mask.fdiv (2 ^ min w.toNat 64)) 1=1)
def minB(n mask m:Int):Bool:=decide (ofDay m=n)&&dayA mask (weekday m)
def strB(fr to n mask:Int):Bool:=decide (0<=n∧n<1440∧1<=mask∧mask<=127∧0<=fr)&&anyN (to-fr).toNat fun i=>minB n mask (fr+1+i)
def trB(t:Trg)(rule:ByteArray)(h:Hap):Bool:=
 if t.kind=1 then decide (t.key∈h.changed)else if t.kind=2 then decide (eK t.event∈h.events)else if t.kind=3 then strB h.fr h.to t.n t.m
 else if t.kind=4 then !decide (h.mode=⟨#[]⟩)&&(decide (t.name=⟨#[]⟩)||decide (t.name=h.mode))else if t.kind=5 then h.start
 else if t.kind=6 then memS h.held rule else false
def anyB(r:Rul)(h:Hap):Bool:=anyN r.on.length fun i=>trB (r.on.getD i default) r.name (normH h)
structure Out where
 writes:List Write
 modes:List Write
 ran:List ByteArray
 notes:List ByteArray
 deriving Inhabited,DecidableEq
def cOut(o:Out):List PV:=[roL 10 cWrite o.writes,roL 10 cWrite o.modes,roL 1 cstr o.ran,roL 1 cstr o.notes]
def noOut:Out:=⟨[],[],[],[]⟩
def cauR(r:Rul):Cause:=⟨2,r.name,r.prio⟩
def limX(s:Sco)(v:Vw)(x:Stp):Val:=limitV ((findA s.home x.key).getD noAttr) (evlE v x.expr).1
def setW(s:Sco)(v:Vw)(x:Stp)(c:Cause)(i:Int):List Write:=
 if(findA s.home x.key).isSome=true∧(evlE v x.expr).2=true∧fitsE ((findA s.home x.key).getD noAttr) (limX s v x)=0 then [⟨x.key,limX s v x,c,i⟩]else []
def cluX(s:Sco)(x:Stp):Clu:=(partO s.home x.key.dev x.key.cluster).getD noClu
def keyX(dev:Int)(k:Clu)(j:Nat):Key:=⟨dev,k.name,(k.attrs.getD j default).name⟩
def befV(l:List Item)(dev:Int)(k:Clu)(j:Nat):Val:=match findI l (keyX dev k j)with
 |some y=>y.value
 |none=>zeroV (k.attrs.getD j default)
def bfrL(l:List Item)(dev:Int)(k:Clu)(n:Nat):List Val:=(List.range n).map (befV l dev k)
def parX(v:Vw)(x:Stp)(k:Clu):Val:=if(cmdOf k.commands x.name).param.kind≠0 then(evlE v x.expr).1 else noVal
def aftL(v:Vw)(x:Stp)(k:Clu):List Val:=applyL k x.name (parX v x k) (bfrL v.items x.key.dev k k.attrs.length)
def chgW(v:Vw)(x:Stp)(k:Clu)(c:Cause)(i:Int)(j:Nat):List Write:=
 if(aftL v x k).getD j default≠(bfrL v.items x.key.dev k k.attrs.length).getD j default then [⟨keyX x.key.dev k j,(aftL v x k).getD j default,c,i⟩]else []
def callW(s:Sco)(v:Vw)(x:Stp)(c:Cause)(i:Int):List Write:=(List.range (aftL v x (cluX s x)).length).flatMap (chgW v x (cluX s x) c i)
def atW(i:Int)(w:Write):Write:={ w with order:=i }
def sceW(s:Sco)(sc:List Scene)(x:Stp)(c:Cause)(i:Int):List Write:=
 if sceAt sc x.name<sc.length∧checkS s.home (findS sc x.name)=0 then(applyS (findS sc x.name) c (findS sc x.name).items.length).map (atW i)else []
def stpW(s:Sco)(sc:List Scene)(v:Vw)(c:Cause)(x:Stp)(i:Int):List Write:=
 if x.kind=1 then setW s v x c i else if x.kind=2 then callW s v x c i else if x.kind=3 then sceW s sc x c i else []
def stpM(c:Cause)(x:Stp)(i:Int):List Write:=if x.kind=4 then [⟨noKey,⟨4,0,x.name⟩,c,i⟩]else []
def stpN(c:Cause)(x:Stp):List ByteArray:=if x.kind=5 then [c.name++(⟨#[58,32]⟩:ByteArray)++x.name]else []
def rulW(s:Sco)(sc:List Scene)(v:Vw)(r:Rul)(n:Nat):List Write:=(List.range n).flatMap fun i=>stpW s sc v (cauR r) (r.steps.getD i default) i
def rulM(r:Rul)(n:Nat):List Write:=(List.range n).flatMap fun i=>stpM (cauR r) (r.steps.getD i default) i
def rulN(r:Rul)(n:Nat):List ByteArray:=(List.range n).flatMap fun i=>stpN (cauR r) (r.steps.getD i default)
def ranB(v:Vw)(h:Hap)(r:Rul):Bool:=anyB r h&&truE v r.cond
def ranL(v:Vw)(h:Hap)(l:List Rul):List Rul:=l.filter (ranB v h)
def allW(s:Sco)(sc:List Scene)(v:Vw)(l:List Rul):List Write:=l.flatMap fun r=>rulW s sc v r r.steps.length
def allM(l:List Rul):List Write:=l.flatMap fun r=>rulM r r.steps.length
def allN(l:List Rul):List ByteArray:=l.flatMap fun r=>rulN r r.steps.length
def runO(s:Sco)(sc:List Scene)(v:Vw)(h:Hap)(l:List Rul):Out:=
 ⟨isortR ordW (allW s sc v (ranL v h l)),isortR ordW (allM (ranL v h l)),sortS ((ranL v h l).map Rul.name),sortS (allN (ranL v h l))⟩
def runE(s:Sco)(l:List Rul):Int:=if scoE s≠0 then scoE s else(rulesE s l).2
def runR(s:Sco)(sc:List Scene)(v:Vw)(h:Hap)(l:List Rul):Out:=if runE s l=0 then runO s sc v h l else noOut
def bestW:Write->List Write->Write
 |b,[]=>b
 |b,w::l=>bestW (if befW w b=true then w else b) l
def modeT(l:List Write)(old:ByteArray):ByteArray:=match l with
 | []=>old
 |w::l=>(bestW w l).value.s
def cmpI(a b:Int):Int:=if a<b then -1 else if b<a then 1 else 0
def cmpT(a b:ByteArray):Int:=if sLt a b=true then -1 else if a=b then 0 else 1
def sidI(p q:Bool):Int:=if p=true then -1 else if q=true then 1 else 0
def decL:List Int->Int
 | []=>0
 |x::l=>if x≠0 then x else decL l
def rnkL(a b:Write):List Int:=[cmpI b.cause.kind a.cause.kind,cmpI b.cause.prio a.cause.prio,cmpT a.cause.name b.cause.name,cmpI b.order a.order,sidI (vLess a.value b.value) (vLess b.value a.value),sidI (keyLess a.key b.key) (keyLess b.key a.key)]
theorem Z46(x:Int)(l:List Int):decide (decL (x::l)<0)=if x≠0 then decide (x<0)else decide (decL l<0):=by
 rw[decL];split<;>rfl
theorem Zou{a b:Int}:cmpI a b≠0↔a≠b:=by unfold cmpI;(repeat' split)<;>omega
theorem Zot{a b:Int}:decide (cmpI a b<0)=decide (a<b):=by unfold cmpI;rw[Q6];(repeat' split)<;>omega
theorem Zox{a b:ByteArray}:cmpT a b≠0↔a≠b:=by
 unfold cmpT
 by_cases e:a=b
 ·subst e;rw[qJ (by rw[Z1r];decide),qK rfl];simp
 rw[qJ (c:=a=b) e];split<;>simp[e]
theorem Zow{a b:ByteArray}:decide (cmpT a b<0)=sLt a b:=by
 unfold cmpT;cases h:sLt a b with
 |true=>simp
 |false=>
  simp only[Bool.false_eq_true,if_false];split<;>rfl
theorem sid_ne{α:Type}{lt:α->α->Bool}(h:TO (fun x y=>x=y) lt){a b:α}:sidI (lt a b) (lt b a)≠0↔a≠b:=by
 unfold sidI
 by_cases e:a=b
 ·subst e;rw[h.irr];simp
 rcases h.tot _ _ e with k|k<;>rw[k]<;>simp[e]
 split<;>decide
theorem sid_lt{α:Type}{lt:α->α->Bool}{a b:α}:decide (sidI (lt a b) (lt b a)<0)=lt a b:=by
 unfold sidI;cases h:lt a b with
 |true=>simp
 |false=>
  simp only[Bool.false_eq_true,if_false];split<;>rfl
theorem Zth(a b:Write):decide (decL (rnkL a b)<0)=befW a b:=by
 unfold rnkL befW;rw[Z46,Z46,Z46,Z46,Z46,Z46];simp only[Zou,Zot,Zox,Zow,sid_ne to_val,sid_ne to_key,sid_lt];have e1:(b.cause.kind≠a.cause.kind)=(a.cause.kind≠b.cause.kind):=propext ⟨fun h e=>h e.symm,fun h e=>h e.symm⟩;have e2:(b.cause.prio≠a.cause.prio)=(a.cause.prio≠b.cause.prio):=propext ⟨fun h e=>h e.symm,fun h e=>h e.symm⟩;have e3:(b.order≠a.order)=(a.order≠b.order):=propext ⟨fun h e=>h e.symm,fun h e=>h e.symm⟩;simp only[e1,e2,e3]
 by_cases ek:a.key=b.key
 ·rw[ek,Z15];simp[decL]
 simp[ek]
theorem Zct(a b:Val):AC Tryz.prog 127 [.pv (.agg (cVal a)),.pv (.agg (cVal b))] [] (.pv (vbool (vLess a b))) []:=by
 refine AC.of_awp (T:=T) T_ok hm Tryz.call127 Tryz.func127 rfl rfl rfl ?_
 conv=>whnf
 repeat(any_goals((first|refine⟨QT ?_,QF ?_⟩<;>intro h<;>(try simp only[Q0,Q1,Q2,Q3,Q4,Q5,Q6,Q7,Q8,reduceCtorEq]at h))<;>conv=>whnf))
 all_goals(refine PSub.sb ?_;unfold vLess;simp[*];try rfl)
theorem Z8i(a b:Int):AC Tryz.prog 124 [.pv (vint a),.pv (vint b)] [] (.pv (vint (cmpI a b))) []:=by
 refine AC.of_awp (T:=T) T_ok hm Tryz.call124 Tryz.func124 rfl rfl rfl ?_
 conv=>whnf
 repeat(any_goals((first|refine⟨QT ?_,QF ?_⟩<;>intro h<;>(try simp only[Q0,Q1,Q2,Q3,Q4,Q5,Q6,Q7,Q8,reduceCtorEq]at h))<;>conv=>whnf))
 all_goals(refine PSub.int ?_;unfold cmpI;(repeat' split)<;>first|rfl|omega)
theorem Zlx(a b:ByteArray):AC Tryz.prog 125 [.pv (vstr a),.pv (vstr b)] [] (.pv (vint (cmpT a b))) []:=by
 refine AC.of_awp (T:=T) T_ok hm Tryz.call125 Tryz.func125 rfl rfl rfl ?_
 conv=>whnf
 repeat(any_goals((first|refine⟨QT ?_,QF ?_⟩<;>intro h<;>(try simp only[Q0,Q1,Q2,Q3,Q4,Q5,Q6,Q7,Q8,reduceCtorEq]at h))<;>conv=>whnf))
 ·refine PSub.int ?_;unfold cmpT;rw[qK (show sLt a b=true from h)]
 ·rename_i h1;refine PSub.int ?_;unfold cmpT;rw[qJ (by show ¬Op.bytesLess _ _=true;simp_all),qJ (by simp_all)]
 rename_i h1;refine PSub.int ?_;unfold cmpT;rw[qJ (by show ¬Op.bytesLess _ _=true;simp_all),qK (by simp_all)]
theorem Zck(p q:Bool):AC Tryz.prog 126 [.pv (vbool p),.pv (vbool q)] [] (.pv (vint (sidI p q))) []:=by
 refine AC.of_awp (T:=T) T_ok hm Tryz.call126 Tryz.func126 rfl rfl rfl ?_
 conv=>whnf
 repeat(any_goals((first|refine⟨QT ?_,QF ?_⟩<;>intro h<;>(try simp only[Q0,Q1,Q2,Q3,Q4,Q5,Q6,Q7,Q8,reduceCtorEq]at h))<;>conv=>whnf))
 all_goals(refine PSub.int ?_;unfold sidI;simp[*])
theorem Zp4{l:List Int}{k:Nat}(hk:k<l.length)(h0:l.getD k default≠0)(hb:∀j,j<k->l.getD j default=0):decL l=l.getD k default:=by
 induction l generalizing k with
 |nil=>exact absurd hk (by simp)
 |cons x l ih=>
  cases k with
  |zero=>
   have h1:x≠0:=h0;rw[decL,qK h1];rfl
  |succ k=>
   have hx:x=0:=hb 0 (by omega);rw[decL,qJ (by simpa using hx)];exact ih (by simpa using hk) h0 fun j hj=>hb (j+1) (by omega)
theorem Zp5{l:List Int}(hb:∀j,j<l.length->l.getD j default=0):decL l=0:=by
 induction l with
 |nil=>rfl
 |cons x l ih=>
  have hx:x=0:=hb 0 (by simp);rw[decL,qJ (by simpa using hx)];exact ih fun j hj=>hb (j+1) (by simp;omega)
theorem Zly(l:List Int)(hl:smallL l):AC Tryz.prog 123 [.pv (roL 1 cint l)] [] (.pv (vint (decL l))) []:=by
 have hl:l.length<=1048576:=hl;refine AC.of_awp (T:=T) T_ok hm Tryz.call123 Tryz.func123 rfl rfl rfl ?_
 conv=>whnf
 refine loop_k (ι:=Nat) [5,6] [] (fun k=>k<=l.length∧(∀j,j<k->l.getD j default=0)) (fun k=>l.length-k) 0 (fun k=>[(7,.pv (vint k))]) (fun _=>[]) [] ⟨qe _,fun j h=>absurd h (by omega)⟩ ?_ (fun k hk=>?_)
 ·exact QD
 obtain⟨hkn,hinv⟩:=hk
 conv=>whnf
 repeat(any_goals((first|refine⟨QT ?_,QF ?_⟩<;>intro h<;>(try simp only[Q0,Q1,Q2,Q3,Q4,Q5,Q6,Q7,Q8,reduceCtorEq]at h)|refine QI ?_|refine .inl ⟨wrap64 (by omega),?_⟩)<;>conv=>whnf))
 ·exact PSub.int (Zp4 (by omega) h hinv).symm
 ·refine⟨k+1,[],⟨by omega,?_⟩,by first|omega|(dsimp only;omega),?_⟩;rotate_left
  ·exact QD
  intro j hj
  by_cases e:j=k
  ·subst e;exact h
  exact hinv j (by omega)
 exact PSub.int (Zp5 fun j hj=>hinv j (by omega)).symm
theorem Zlz(a b:Write):AC Tryz.prog 70 [.pv (.agg (cWrite a)),.pv (.agg (cWrite b))] [] (.pv (vint (decL (rnkL a b)))) []:=by
 have c:=Zly (rnkL a b) (sl rfl);refine AC.of_awp_ice (T:=T) T_ok hm Tryz.call70 Tryz.func70 rfl rfl rfl ?_
 conv=>whnf
 repeat(any_goals((first|refine .inl ⟨_,Z8i b.cause.kind a.cause.kind,?_⟩|refine .inl ⟨_,Z8i b.cause.prio a.cause.prio,?_⟩|refine .inl ⟨_,Zlx a.cause.name b.cause.name,?_⟩|refine .inl ⟨_,Z8i b.order a.order,?_⟩|refine .inl ⟨_,Zct a.value b.value,?_⟩|refine .inl ⟨_,Zct b.value a.value,?_⟩|refine .inl ⟨_,Zck (vLess a.value b.value) (vLess b.value a.value),?_⟩|refine .inl ⟨_,Z3z a.key b.key,?_⟩|refine .inl ⟨_,Z3z b.key a.key,?_⟩|refine .inl ⟨_,Zck (keyLess a.key b.key) (keyLess b.key a.key),?_⟩|refine QK ?_)<;>conv=>whnf))
 refine .inl ⟨_,AC.sub1 (c) QE,?_⟩
 conv=>whnf
 repeat(any_goals((first|refine QK ?_)<;>conv=>whnf))
 all_goals first|exact .rfl|trace_state
theorem Z8h(a b:Write):AC Tryz.prog 40 [.pv (.agg (cWrite a)),.pv (.agg (cWrite b))] [] (.pv (vbool (befW a b))) []:=by
 rw[<-Zth];refine AC.of_awp (T:=T) T_ok hm Tryz.call40 Tryz.func40 rfl rfl rfl ?_
 conv=>whnf
 repeat(any_goals((first|refine .inl ⟨_,Zlz a b,?_⟩)<;>conv=>whnf))
 exact .rfl
theorem Z2t(a b:Val):(decide (a.kind=b.kind)&&(decide (a.n=b.n)&&(decide (a.s=b.s)&&true)))=decide (a=b):=by
 obtain⟨a1,a2,a3⟩:=a;obtain⟨b1,b2,b3⟩:=b;rw[qt];simp
def cmpW(a b:Write):Int:=if keyLess a.key b.key=true then -1 else if keyLess b.key a.key=true then 1 else if befW a b=true then -1 else if befW b a=true then 1 else 0
theorem Zoy(a b:Write):decide (cmpW a b<0)=ordW a b:=by
 unfold cmpW ordW
 by_cases e:a.key=b.key
 ·have e1:keyLess a.key b.key=false:=by rw[e];exact Z15 _
  have e2:keyLess b.key a.key=false:=by rw[e];exact Z15 _
  rw[qJ (by rw[e1];decide),qJ (by rw[e2];decide),qJ (c:=a.key≠b.key) (fun x=>x e)];cases h:befW a b with
  |true=>rfl
  |false=>
   rw[qJ (by decide)];split<;>rfl
 rw[qK e];cases h:keyLess a.key b.key with
 |true=>rfl
 |false=>
  have h2:=(Z20 e).resolve_left (by rw[h];decide);rw[qJ (by decide),qK h2];rfl
theorem Zm4(a b:Write):AC Tryz.prog 30 [.pv (.agg (cWrite a)),.pv (.agg (cWrite b))] [] (.pv (vint (cmpW a b))) []:=by
 refine AC.of_awp (T:=T) T_ok hm Tryz.call30 Tryz.func30 rfl rfl rfl ?_
 conv=>whnf
 repeat(any_goals((first|refine⟨QT ?_,QF ?_⟩<;>intro h<;>(try simp only[Q0,Q1,Q2,Q3,Q4,Q5,Q6,Q7,Q8,reduceCtorEq]at h)|refine .inl ⟨_,Z3z a.key b.key,?_⟩|refine .inl ⟨_,Z3z b.key a.key,?_⟩|refine .inl ⟨_,Z8h a b,?_⟩|refine .inl ⟨_,Z8h b a,?_⟩)<;>conv=>whnf))
 all_goals(refine PSub.int ?_;unfold cmpW;simp[*])
theorem Zcj(a b:List Write)(ha:a.length<=4194304):AC Tryz.prog 38 [.pv (roL 10 cWrite a),.pv (roL 10 cWrite b)] [] (.pv (vbool (decide (a=b)))) []:=by
 refine AC.of_awp (T:=T) T_ok hm Tryz.call38 Tryz.func38 rfl rfl rfl ?_
 conv=>whnf
 refine⟨fun h=>?_,fun h=>?_⟩<;>(try simp only[Q0,Q1,Q2,Q3,Q4,Q5,Q6,Q7,Q8,reduceCtorEq]at h)<;>(conv=>whnf)
 ·exact PSub.lit_sb (by symm;simp only[Q1];intro e;exact h (by rw[e]))
 have hl:=h;refine loop_k (ι:=Nat) [0,1] [] (fun k=>k<=a.length∧(∀j,j<k->a.getD j default=b.getD j default)) (fun k=>a.length-k) 0 (fun k=>[(5,.pv (vint k))]) (fun _=>[]) [] ⟨qe _,fun j h=>absurd h (by omega)⟩ ?_ (fun k hk=>?_)
 ·exact QD
 obtain⟨hkn,hinv⟩:=hk
 conv=>whnf
 repeat(any_goals((first|refine⟨QT ?_,QF ?_⟩<;>intro h<;>(try simp only[Q0,Q1,Q2,Q3,Q4,Q5,Q6,Q7,Q8,reduceCtorEq]at h)|refine QI ?_|refine QK ?_|refine .inl ⟨wrap64 (by omega),?_⟩)<;>conv=>whnf))
 all_goals try rw[Zxa]at h
 all_goals try simp only[Q0,Q1]at h
 ·exact PSub.lit_sb (by symm;simp only[Q1];intro e;exact h (by rw[e]))
 ·refine⟨k+1,[],⟨by omega,?_⟩,by first|omega|(dsimp only;omega),?_⟩;rotate_left
  ·exact QD
  intro j hj
  by_cases e:j=k
  ·subst e;first|exact h|simpa[-List.getD_eq_getElem?_getD]using h|simp_all[-List.getD_eq_getElem?_getD]
  exact hinv j (by omega)
 exact PSub.lit_sb (by symm;simp only[Q0];exact Z7b (by omega) fun i hi=>hinv i (by omega))
theorem Zt0(a b:Out):decide (a=b)=(decide (a.writes=b.writes)&&(decide (a.modes=b.modes)&&(decide (a.ran=b.ran)&&decide (a.notes=b.notes)))):=by
 obtain⟨a1,a2,a3,a4⟩:=a;obtain⟨b1,b2,b3,b4⟩:=b;rw[qt];simp
structure shortO (o:Out):Prop where
 w:o.writes.length<=4194304
 m:o.modes.length<=4194304
 r:o.ran.length<=1048576
 n:o.notes.length<=1048576
theorem Z54(a b:Out)(ha:shortO a):AC Tryz.prog 13 [.pv (.agg (cOut a)),.pv (.agg (cOut b))] [] (.pv (vbool (decide (a=b)))) []:=by
 refine AC.of_awp (T:=T) T_ok hm Tryz.call13 Tryz.func13 rfl rfl rfl ?_
 conv=>whnf
 repeat(any_goals((first|refine⟨QT ?_,QF ?_⟩<;>intro h<;>(try simp only[Q0,Q1,Q2,Q3,Q4,Q5,Q6,Q7,Q8,reduceCtorEq]at h)|refine .inl ⟨_,Zcj a.writes b.writes ha.w,?_⟩|refine .inl ⟨_,Zcj a.modes b.modes ha.m,?_⟩|refine .inl ⟨_,Zbz a.ran b.ran ha.r,?_⟩|refine .inl ⟨_,Zbz a.notes b.notes ha.n,?_⟩)<;>conv=>whnf))
 all_goals rw[Zt0]
 all_goals first
  |(refine PSub.sb ?_;simp_all;done)
  |(refine PSub.lit_sb ?_;simp_all;done)
  |trace_state
theorem Z5t{m:List Key}{x:Key}{p:Nat}(hA:Asc m)(hp:p<=m.length)(h1:∀j,j<p->keyLess (m.getD j default) x=true)(h2:p<m.length->keyLess (m.getD p default) x=false)(h3:p=m.length∨m.getD p default≠x):insL m p x=putK m x:=by
 have hq:p=posK m x:=Zgs hp h1 h2;rw[<-Zak (k:=x) hA,<-hq,qK h3]
theorem Zh2{m:List Key}{x:Key}{p:Nat}(hA:Asc m)(hp:p<m.length)(h1:∀j,j<p->keyLess (m.getD j default) x=true)(h3:m.getD p default=x):putK m x=m:=by
 have hq:p=posK m x:=Zgs (by omega) h1 (fun _=>by rw[h3];exact Z15 x);rw[<-Zak (k:=x) hA,<-hq,qJ (by rintro (h|h);omega;exact h h3)]
theorem Zh0{m:List ByteArray}{x:ByteArray}{p:Nat}(hA:AscS m)(hp:p<=m.length)(h1:∀j,j<p->sLt (m.getD j default) x=true)(h2:p<m.length->sLt (m.getD p default) x=false)(h3:p=m.length∨m.getD p default≠x):insL m p x=putS m x:=by
 have h4:∀i,p<=i->i<m.length->sLt x (m.getD i default)=true:=fun i hi hl=>by
  have a3:sLt x (m.getD p default)=true:=(Z24 (h3.resolve_left (by omega))).resolve_left (by rw[h2 (by omega)];decide)
  by_cases e:i=p
  ·subst e;exact a3
  refine Z30 a3 ?_;rw[Z03 _ _ hl,Z03 _ _ (show p<m.length by omega)];exact List.pairwise_iff_getElem.1 hA p i (by omega) hl (by omega)
 refine Z9z hA (fun hx=>?_) hp h4 ?_
 ·obtain⟨i,hi,e⟩:=qp hx
  by_cases hip:i<p
  ·have:=h1 i hip;rw[Z03 _ _ hi,e,Z1r]at this;cases this
  have:=h4 i (by omega) hi;rw[Z03 _ _ hi,e,Z1r]at this;cases this
 by_cases e:p=0
 ·exact .inl e
 exact .inr (Zb1 (h1 (p-1) (by omega)))
theorem Zt4{m:List ByteArray}{x:ByteArray}{p:Nat}(hA:AscS m)(hp:p<m.length)(h3:m.getD p default=x):putS m x=m:=by
 refine Z43 (Z93 hA) hA fun y=>?_
 rw[mem_putS];constructor
 ·rintro (h|h)
  ·rw[h,<-h3,Z03 _ _ hp];exact qE hp
  exact h
 exact .inr
theorem Zb8{l:List Key}{k:Nat}(hk:k<l.length):sortK (l.take (k+1))=putK (sortK (l.take k)) (l.getD k default):=by rw[Z09 hk,Zi0]
theorem Zui{l:List ByteArray}{k:Nat}(hk:k<l.length):sortS (l.take (k+1))=putS (sortS (l.take k)) (l.getD k default):=by rw[Z09 hk,Zi2]
def twoK:List PV->Prop:=fun xs=>∃x y:Key,xs = [.agg (cKey x),.agg (cKey y)]
noncomputable def lessG:List PV->Bool:=fun xs=>match xs with
 | [.agg [.val (.int _ a),.val (.string b),.val (.string c)],.agg [.val (.int _ d),.val (.string e),.val (.string f)]]=>keyLess ⟨a,b,c⟩ ⟨d,e,f⟩
 |_=>false
def twoS:List PV->Prop:=fun xs=>∃x y:ByteArray,xs = [vstr x,vstr y]
noncomputable def lessGS:List PV->Bool:=fun xs=>match xs with
 | [.val (.string a),.val (.string b)]=>sLt a b
 |_=>false
set_option maxHeartbeats 1000000 in
theorem Zn7(gb:List PV->Bool)(gi:List PV->Int)(hgb:∀a b:Key,gb [.agg (cKey a),.agg (cKey b)]=keyLess a b)(l:List Key)(hl:smallL l) :
  AC Tryz.prog 90 [.pv (roL 3 cKey l),.clo twoK true gb gi] [] (.pv (roL 3 cKey (sortK l))) []:=by
 have hl:l.length<=1048576:=hl;have INS:=@Zms;refine AC.of_awp (T:=T) T_ok hm Tryz.call90 Tryz.func90 rfl rfl rfl ?_
 conv=>whnf
 refine loop_k (ι:=Nat) [1,9,10] [] (fun k=>k<=l.length∧True) (fun k=>l.length-k) 0 (fun k=>[(5,.own 500),(11,.pv (vint k))]) (fun k=>[(500,rowL 3 cKey (sortK (l.take k)))]) [] ⟨qe _,trivial⟩ ?_ (fun k hk=>?_)
 ·(repeat'(first|exact QC|refine qa ?_ ?_));all_goals((intro i hi;exact absurd hi (by simp[sortK])))
 obtain⟨hkn,hinv⟩:=hk
 conv=>whnf
 have hlen:(sortK (l.take k)).length<=l.length:=qF (Z4v _) (by rw[qq];omega);have hA:Asc (sortK (l.take k)):=Z2c _;refine⟨fun h=>?_,fun h=>?_⟩<;>(try simp only[Q0,Q1,Q2,Q3,Q4,Q5,Q6,Q7,Q8,reduceCtorEq]at h)<;>(conv=>whnf)
 ·have hk:k<l.length:=by omega
  have hs:=Zb8 hk
  repeat(any_goals((first|refine QI ?_)<;>conv=>whnf))
  obtain⟨x,hx⟩:∃x,x=l.getD k default:=⟨_,rfl⟩;rw[<-hx]at hs;generalize sortK (l.take k)=m at *;refine loop_k (ι:=Nat) [1,5,7,9,10,11] [7,500] (fun p=>p<=m.length∧∀j,j<p->keyLess (m.getD j default) x=true) (fun p=>m.length-p) 0 (fun p=>[(8,.pv (vint p))]) (fun _=>[]) [] ⟨qe _,fun j h=>absurd h (by omega)⟩ ?_ (fun p hp=>?_)
  ·(repeat'(first|exact QC|refine qa ?_ ?_))
   all_goals(intro i hi;exact PSubs.rfl)
  obtain⟨hpn,hinv⟩:=hp
  conv=>whnf
  repeat(any_goals((first|refine⟨QT ?_,QF ?_⟩<;>intro h<;>(try simp only[Q0,Q1,Q2,Q3,Q4,Q5,Q6,Q7,Q8,reduceCtorEq]at h)|refine⟨⟨_,_,rfl⟩,?_⟩|refine .inr (.inr (.inr (.inr ⟨[(0,500),(2,45)],[(1,46)],_,_,_,(INS (l:=m) (i:=p) (x:=l.getD k default) hpn (by omega) (by exact⟨PSub.rfl,PSub.rfl,PSub.rfl,trivial⟩)),rfl,?_⟩)))|refine QI ?_|refine QK ?_|refine .inl ⟨wrap64 (by omega),?_⟩)<;>conv=>whnf))
  ·refine⟨p+1,[],⟨by omega,fun j hj=>?_⟩,by omega,?_⟩
   ·by_cases e:j=p
    ·subst e;rw[hx,<-hgb];exact h
    exact hinv j (by omega)
   (repeat'(first|exact QC|refine qa ?_ ?_))
   all_goals(intro i hi;exact PSubs.rfl)
  ·exfalso;omega
  ·rename_i h1 h2;have h3:=of_decide_eq_false ((key_eq _ _).symm.trans h);have h4:keyLess (m.getD p default) x=false:=by rw[hx,<-hgb];assumption
   have hput:=Z5t hA hpn hinv (fun _=>h4) (.inr (by rw[hx];exact h3));refine⟨k+1,[(500,46)],⟨by omega,trivial⟩,by omega,?_⟩;rw[hs,<-hput,hx];(repeat'(first|exact QC|refine qa ?_ ?_))
   all_goals(intro i hi;exact PSubs.rfl)
  ·have h3:=qC ((key_eq _ _).symm.trans h);have hput:=Zh2 (p:=p) hA (by omega) hinv (by rw[hx];exact h3);refine⟨k+1,[],⟨by omega,trivial⟩,by omega,?_⟩;rw[hs,hput];(repeat'(first|exact QC|refine qa ?_ ?_))
   all_goals(intro i hi;exact PSubs.rfl)
  ·have hput:=Z5t hA hpn hinv (fun hh=>by omega) (.inl (by omega));refine⟨k+1,[(500,46)],⟨by omega,trivial⟩,by omega,?_⟩;rw[hs,<-hput,hx];(repeat'(first|exact QC|refine qa ?_ ?_))
   all_goals(intro i hi;exact PSubs.rfl)
  all_goals(exfalso;omega)
 have e:k=l.length:=by omega
 subst e;rw[List.take_length];exact .rfl
theorem Zn6(F:FuncId)(hcall:∀(vals:Array Value) (w:World),(callFunc F vals).run Tryz.prog w = .ok (.enter F vals) w)(hF:∀a b:Key,AC Tryz.prog F [.pv (.agg (cKey a)),.pv (.agg (cKey b))] [] (.pv (vbool (keyLess a b))) [])(l:List Key)(hl:smallL l) :
  AC Tryz.prog 90 [.pv (roL 3 cKey l),.fn F []] [] (.pv (roL 3 cKey (sortK l))) []:=by
 refine AC.with_fn (pre:=[.pv (roL 3 cKey l)]) (post:=[]) (Zn7 lessG (fun _=>0) (fun _ _=>rfl) l hl) hcall rfl rfl rfl ?_
 rintro xs ⟨x,y,rfl⟩
 exact hF x y
set_option maxHeartbeats 1000000 in
theorem Zn5(gb:List PV->Bool)(gi:List PV->Int)(hgb:∀a b:Key,gb [.agg (cKey a),.agg (cKey b)]=keyLess a b)(l:List Key)(hl:smallL l) :
  AC Tryz.prog 91 [.pv (roL 3 cKey l),.clo twoK true gb gi] [] (.pv (roL 3 cKey (sortK l))) []:=by
 have hl:l.length<=1048576:=hl;have INS:=@Zmr;refine AC.of_awp (T:=T) T_ok hm Tryz.call91 Tryz.func91 rfl rfl rfl ?_
 conv=>whnf
 refine loop_k (ι:=Nat) [1,9,10] [] (fun k=>k<=l.length∧True) (fun k=>l.length-k) 0 (fun k=>[(5,.own 500),(11,.pv (vint k))]) (fun k=>[(500,rowL 3 cKey (sortK (l.take k)))]) [] ⟨qe _,trivial⟩ ?_ (fun k hk=>?_)
 ·(repeat'(first|exact QC|refine qa ?_ ?_));all_goals((intro i hi;exact absurd hi (by simp[sortK])))
 obtain⟨hkn,hinv⟩:=hk
 conv=>whnf
 have hlen:(sortK (l.take k)).length<=l.length:=qF (Z4v _) (by rw[qq];omega);have hA:Asc (sortK (l.take k)):=Z2c _;refine⟨fun h=>?_,fun h=>?_⟩<;>(try simp only[Q0,Q1,Q2,Q3,Q4,Q5,Q6,Q7,Q8,reduceCtorEq]at h)<;>(conv=>whnf)
 ·have hk:k<l.length:=by omega
  have hs:=Zb8 hk
  repeat(any_goals((first|refine QI ?_)<;>conv=>whnf))
  obtain⟨x,hx⟩:∃x,x=l.getD k default:=⟨_,rfl⟩;rw[<-hx]at hs;generalize sortK (l.take k)=m at *;refine loop_k (ι:=Nat) [1,5,7,9,10,11] [7,500] (fun p=>p<=m.length∧∀j,j<p->keyLess (m.getD j default) x=true) (fun p=>m.length-p) 0 (fun p=>[(8,.pv (vint p))]) (fun _=>[]) [] ⟨qe _,fun j h=>absurd h (by omega)⟩ ?_ (fun p hp=>?_)
  ·(repeat'(first|exact QC|refine qa ?_ ?_))
   all_goals(intro i hi;exact PSubs.rfl)
  obtain⟨hpn,hinv⟩:=hp
  conv=>whnf
  repeat(any_goals((first|refine⟨QT ?_,QF ?_⟩<;>intro h<;>(try simp only[Q0,Q1,Q2,Q3,Q4,Q5,Q6,Q7,Q8,reduceCtorEq]at h)|refine⟨⟨_,_,rfl⟩,?_⟩|refine .inr (.inr (.inr (.inr ⟨[(0,500),(2,45)],[(1,46)],_,_,_,(INS (l:=m) (i:=p) (x:=l.getD k default) hpn (by omega) (by exact⟨PSub.rfl,PSub.rfl,PSub.rfl,trivial⟩)),rfl,?_⟩)))|refine QI ?_|refine QK ?_|refine .inl ⟨wrap64 (by omega),?_⟩)<;>conv=>whnf))
  ·refine⟨p+1,[],⟨by omega,fun j hj=>?_⟩,by omega,?_⟩
   ·by_cases e:j=p
    ·subst e;rw[hx,<-hgb];exact h
    exact hinv j (by omega)
   (repeat'(first|exact QC|refine qa ?_ ?_))
   all_goals(intro i hi;exact PSubs.rfl)
  ·exfalso;omega
  ·rename_i h1 h2;have h3:=of_decide_eq_false ((key_eq _ _).symm.trans h);have h4:keyLess (m.getD p default) x=false:=by rw[hx,<-hgb];assumption
   have hput:=Z5t hA hpn hinv (fun _=>h4) (.inr (by rw[hx];exact h3));refine⟨k+1,[(500,46)],⟨by omega,trivial⟩,by omega,?_⟩;rw[hs,<-hput,hx];(repeat'(first|exact QC|refine qa ?_ ?_))
   all_goals(intro i hi;exact PSubs.rfl)
  ·have h3:=qC ((key_eq _ _).symm.trans h);have hput:=Zh2 (p:=p) hA (by omega) hinv (by rw[hx];exact h3);refine⟨k+1,[],⟨by omega,trivial⟩,by omega,?_⟩;rw[hs,hput];(repeat'(first|exact QC|refine qa ?_ ?_))
   all_goals(intro i hi;exact PSubs.rfl)
  ·have hput:=Z5t hA hpn hinv (fun hh=>by omega) (.inl (by omega));refine⟨k+1,[(500,46)],⟨by omega,trivial⟩,by omega,?_⟩;rw[hs,<-hput,hx];(repeat'(first|exact QC|refine qa ?_ ?_))
   all_goals(intro i hi;exact PSubs.rfl)
  all_goals(exfalso;omega)
 have e:k=l.length:=by omega
 subst e;rw[List.take_length];exact .rfl
theorem Zn4(F:FuncId)(hcall:∀(vals:Array Value) (w:World),(callFunc F vals).run Tryz.prog w = .ok (.enter F vals) w)(hF:∀a b:Key,AC Tryz.prog F [.pv (.agg (cKey a)),.pv (.agg (cKey b))] [] (.pv (vbool (keyLess a b))) [])(l:List Key)(hl:smallL l) :
  AC Tryz.prog 91 [.pv (roL 3 cKey l),.fn F []] [] (.pv (roL 3 cKey (sortK l))) []:=by
 refine AC.with_fn (pre:=[.pv (roL 3 cKey l)]) (post:=[]) (Zn5 lessG (fun _=>0) (fun _ _=>rfl) l hl) hcall rfl rfl rfl ?_
 rintro xs ⟨x,y,rfl⟩
 exact hF x y
set_option maxHeartbeats 1000000 in
theorem Zn9(gb:List PV->Bool)(gi:List PV->Int)(hgb:∀a b:ByteArray,gb [vstr a,vstr b]=sLt a b)(l:List ByteArray)(hl:smallL l) :
  AC Tryz.prog 93 [.pv (roL 1 cstr l),.clo twoS true gb gi] [] (.pv (roL 1 cstr (sortS l))) []:=by
 have hl:l.length<=1048576:=hl;refine AC.of_awp (T:=T) T_ok hm Tryz.call93 Tryz.func93 rfl rfl rfl ?_
 conv=>whnf
 refine loop_k (ι:=Nat) [1,9,10] [] (fun k=>k<=l.length∧True) (fun k=>l.length-k) 0 (fun k=>[(5,.own 500),(11,.pv (vint k))]) (fun k=>[(500,rowL 1 cstr (sortS (l.take k)))]) [] ⟨qe _,trivial⟩ ?_ (fun k hk=>?_)
 ·(repeat'(first|exact QC|refine qa ?_ ?_));all_goals((intro i hi;exact absurd hi (by simp[sortS])))
 obtain⟨hkn,hinv⟩:=hk
 conv=>whnf
 have hlen:(sortS (l.take k)).length<=l.length:=qF (Z32 _) (by rw[qq];omega);have hA:AscS (sortS (l.take k)):=Z39 _;refine⟨fun h=>?_,fun h=>?_⟩<;>(try simp only[Q0,Q1,Q2,Q3,Q4,Q5,Q6,Q7,Q8,reduceCtorEq]at h)<;>(conv=>whnf)
 ·have hk:k<l.length:=by omega
  have hs:=Zui hk
  repeat(any_goals((first|refine QI ?_)<;>conv=>whnf))
  obtain⟨x,hx⟩:∃x,x=l.getD k default:=⟨_,rfl⟩;rw[<-hx]at hs;generalize sortS (l.take k)=m at *;refine loop_k (ι:=Nat) [1,5,7,9,10,11] [500] (fun p=>p<=m.length∧∀j,j<p->sLt (m.getD j default) x=true) (fun p=>m.length-p) 0 (fun p=>[(8,.pv (vint p))]) (fun _=>[]) [] ⟨qe _,fun j h=>absurd h (by omega)⟩ ?_ (fun p hp=>?_)
  ·(repeat'(first|exact QC|refine qa ?_ ?_))
   all_goals(intro i hi;exact PSubs.rfl)
  obtain⟨hpn,hinv⟩:=hp
  conv=>whnf
  repeat(any_goals((first|refine⟨QT ?_,QF ?_⟩<;>intro h<;>(try simp only[Q0,Q1,Q2,Q3,Q4,Q5,Q6,Q7,Q8,reduceCtorEq]at h)|refine⟨⟨_,_,rfl⟩,?_⟩|refine .inr (.inr (.inr (.inr ⟨[(0,500),(2,45)],[(1,46)],_,_,_,(Zmt (l:=m) (i:=p) (x:=l.getD k default) hpn (by omega) (by exact⟨PSub.rfl,trivial⟩)),rfl,?_⟩)))|refine QI ?_|refine .inl ⟨wrap64 (by omega),?_⟩)<;>conv=>whnf))
  ·refine⟨p+1,[],⟨by omega,fun j hj=>?_⟩,by omega,?_⟩
   ·by_cases e:j=p
    ·subst e;rw[hx,<-hgb];exact h
    exact hinv j (by omega)
   (repeat'(first|exact QC|refine qa ?_ ?_))
   all_goals(intro i hi;exact PSubs.rfl)
  ·exfalso;omega
  ·have h4:sLt (m.getD p default) x=false:=by rw[hx,<-hgb];assumption
   have hput:=Zh0 hA hpn hinv (fun _=>h4) (.inr (by rw[hx];exact h));refine⟨k+1,[(500,46)],⟨by omega,trivial⟩,by omega,?_⟩;rw[hs,<-hput,hx];(repeat'(first|exact QC|refine qa ?_ ?_))
   all_goals(intro i hi;exact PSubs.rfl)
  ·have hput:=Zt4 (p:=p) (x:=x) hA (by omega) (by rw[hx];exact h);refine⟨k+1,[],⟨by omega,trivial⟩,by omega,?_⟩;rw[hs,hput];(repeat'(first|exact QC|refine qa ?_ ?_))
   all_goals(intro i hi;exact PSubs.rfl)
  ·have hput:=Zh0 hA hpn hinv (fun hh=>by omega) (.inl (by omega));refine⟨k+1,[(500,46)],⟨by omega,trivial⟩,by omega,?_⟩;rw[hs,<-hput,hx];(repeat'(first|exact QC|refine qa ?_ ?_))
   all_goals(intro i hi;exact PSubs.rfl)
  all_goals(exfalso;omega)
 have e:k=l.length:=by omega
 subst e;rw[List.take_length];exact .rfl
theorem Zn8(F:FuncId)(hcall:∀(vals:Array Value) (w:World),(callFunc F vals).run Tryz.prog w = .ok (.enter F vals) w)(hF:∀a b:ByteArray,AC Tryz.prog F [.pv (vstr a),.pv (vstr b)] [] (.pv (vbool (sLt a b))) [])(l:List ByteArray)(hl:smallL l) :
  AC Tryz.prog 93 [.pv (roL 1 cstr l),.fn F []] [] (.pv (roL 1 cstr (sortS l))) []:=by
 refine AC.with_fn (pre:=[.pv (roL 1 cstr l)]) (post:=[]) (Zn9 lessGS (fun _=>0) (fun _ _=>rfl) l hl) hcall rfl rfl rfl ?_
 rintro xs ⟨x,y,rfl⟩
 exact hF x y
theorem Zn2(a b:Key):AC Tryz.prog 92 [.pv (.agg (cKey a)),.pv (.agg (cKey b))] [] (.pv (vbool (keyLess a b))) []:=by
 refine AC.of_awp (T:=T) T_ok hm Tryz.call92 Tryz.func92 rfl rfl rfl ?_
 conv=>whnf
 repeat(any_goals((first|refine⟨QT ?_,QF ?_⟩<;>intro h<;>(try simp only[Q0,Q1,Q2,Q3,Q4,Q5,Q6,Q7,Q8,reduceCtorEq]at h))<;>conv=>whnf))
 all_goals(try simp only[Q0,Q1,Q2,Q3,Q4,Q5,Q6,Q7,Q8,reduceCtorEq]at *)
 all_goals first
  |contradiction
  |(exfalso;omega)
  |exact PSub.rfl
  |(refine PSub.int ?_;simp only[keyLess];(repeat' split)<;>first|rfl|omega|(simp_all[-List.getD_eq_getElem?_getD];done)|(simp_all[-List.getD_eq_getElem?_getD];omega))
  |(refine PSub.sb ?_;simp_all[keyLess,-List.getD_eq_getElem?_getD];done)
  |(refine PSub.lit_sb ?_;simp_all[keyLess,-List.getD_eq_getElem?_getD];done)
  |(refine PSub.sb_lit ?_;simp_all[keyLess,-List.getD_eq_getElem?_getD];done)
  |(refine PSub.sb ?_;rw[qt];simp_all[keyLess,-List.getD_eq_getElem?_getD];done)
  |(refine PSub.lit_sb ?_;rw[qt];simp_all[keyLess,-List.getD_eq_getElem?_getD];done)
  |(refine PSub.sb_lit ?_;rw[qt];simp_all[keyLess,-List.getD_eq_getElem?_getD];done)
  |skip
theorem Zn1(a b:ByteArray):AC Tryz.prog 94 [.pv (vstr a),.pv (vstr b)] [] (.pv (vbool (sLt a b))) []:=by
 refine AC.of_awp (T:=T) T_ok hm Tryz.call94 Tryz.func94 rfl rfl rfl ?_
 conv=>whnf
 exact .rfl
theorem Znc(a b:Int):AC Tryz.prog 95 [.pv (vint a),.pv (vint b)] [] (.pv (.tup [vint (winF a b),vint (winT a b)])) []:=by
 refine AC.of_awp (T:=T) T_ok hm Tryz.call95 Tryz.func95 rfl rfl rfl ?_
 conv=>whnf
 repeat(any_goals((first|refine⟨QT ?_,QF ?_⟩<;>intro h<;>(try simp only[Q0,Q1,Q2,Q3,Q4,Q5,Q6,Q7,Q8,reduceCtorEq]at h)|refine .inl ⟨wrap64 (by omega),?_⟩)<;>conv=>whnf))
 all_goals
  refine⟨?_,?_⟩<;>(conv=>whnf)
 all_goals first
  |(refine PSub.int ?_;have hw:winB a b=true:=qB (by omega);unfold winF;rw[qK hw];omega)
  |(refine PSub.int ?_;have hw:winB a b=true:=qB (by omega);unfold winT;rw[qK hw];done)
  |(refine PSub.int ?_;have hw:winB a b=false:=qG (by omega);unfold winF;rw[qJ (by rw[hw];decide)];done)
  |(refine PSub.int ?_;have hw:winB a b=false:=qG (by omega);unfold winT;rw[qJ (by rw[hw];decide)];done)
  |trace_state
theorem Zn0(h:Hap)(hh:smallHp h):AC Tryz.prog 53 [.pv (.agg (cHap h))] [] (.pv (.agg (cHap (normH h)))) []:=by
 refine AC.of_awp (T:=T) T_ok hm Tryz.call53 Tryz.func53 rfl rfl rfl ?_
 conv=>whnf
 repeat(any_goals((first|refine .inl ⟨_,Zn6 56 Tryz.call56 Z3z h.changed hh.c,?_⟩|refine .inl ⟨_,Zn4 92 Tryz.call92 Zn2 h.events hh.e,?_⟩|refine .inl ⟨_,Zn8 94 Tryz.call94 Zn1 h.held hh.h,?_⟩|refine .inl ⟨_,Znc h.fr h.to,?_⟩)<;>conv=>whnf))
 exact .rfl
theorem Zx6(a b:Int):-1<=winF a b∧winF a b<=1073741824:=by unfold winF winB;split<;>simp_all<;>omega
theorem Ziw(a b:Int):winT a b<=1073741824∧winT a b-winF a b<=1440:=by unfold winT winF winB;split<;>simp_all<;>omega
theorem Ziv(m:Int):0<=weekday m∧weekday m<7:=by
 unfold weekday clampI;split
 ·decide
 split
 ·decide
 have h1:0<=m.tdiv 1440:=Int.tdiv_nonneg (by omega) (by omega);exact⟨Int.tmod_nonneg _ (by omega),Int.tmod_lt_of_pos _ (by omega)⟩
theorem Znb(fr to n mask:Int)(hf:-1<=fr∧fr<=1073741824)(ht:to<=1073741824):AC Tryz.prog 140 [.pv (vint fr),.pv (vint to),.pv (vint n),.pv (vint mask)] [] (.pv (vbool (strB fr to n mask))) []:=by
 have no:¬(0<=n∧n<1440∧1<=mask∧mask<=127∧0<=fr)->strB fr to n mask=false:=fun h=>by unfold strB;rw[qG h,Bool.false_and]
 refine AC.of_awp (T:=T) T_ok hm Tryz.call140 Tryz.func140 rfl rfl rfl ?_
 conv=>whnf
 repeat(any_goals((first|refine⟨QT ?_,QF ?_⟩<;>intro h<;>(try simp only[Q0,Q1,Q2,Q3,Q4,Q5,Q6,Q7,Q8,reduceCtorEq]at h)|refine .inl ⟨wrap64 (by omega),?_⟩)<;>conv=>whnf))
 ·exact PSub.lit_sb (no (by omega)).symm
 ·exact PSub.lit_sb (no (by omega)).symm
 ·exact PSub.lit_sb (no (by omega)).symm
 ·exact PSub.lit_sb (no (by omega)).symm
 ·exact PSub.lit_sb (no (by omega)).symm
 have hin:strB fr to n mask=anyN (to-fr).toNat fun i=>minB n mask (fr+1+i):=by unfold strB;rw[qB (by omega),Bool.true_and]
 rw[hin]
 by_cases hft:to<fr
 ·refine loop_k (ι:=Nat) [1,2,3] [] (fun k=>k=0) (fun k=>0) 0 (fun k=>[(9,.pv (vint (fr+1)))]) (fun _=>[]) [] rfl ?_ (fun k hk=>?_)
  ·exact QD
  conv=>whnf
  repeat(any_goals((first|refine⟨QT ?_,QF ?_⟩<;>intro h<;>(try simp only[Q0,Q1,Q2,Q3,Q4,Q5,Q6,Q7,Q8,reduceCtorEq]at h))<;>conv=>whnf))
  ·exfalso;omega
  refine PSub.lit_sb ?_;rw[Z0d fun j hj=>absurd hj (by omega)]
 refine loop_k (ι:=Nat) [1,2,3] [] (fun k=>k<=(to-fr).toNat∧∀j,j<k->minB n mask (fr+1+j)=false) (fun k=>(to-fr).toNat-k) 0 (fun k=>[(9,.pv (vint (fr+1+(k:Int))))]) (fun _=>[]) [] ⟨qe _,fun j h=>absurd h (by omega)⟩ ?_ (fun k hk=>?_)
 ·(repeat'(first|exact QC|refine qa ?_ ?_))
  all_goals exact PSub.int (by omega)
 obtain⟨hkn,hinv⟩:=hk
 conv=>whnf
 have hw:=Ziv (fr+1+(k:Int))
 repeat(any_goals((first|refine⟨QT ?_,QF ?_⟩<;>intro h<;>(try simp only[Q0,Q1,Q2,Q3,Q4,Q5,Q6,Q7,Q8,reduceCtorEq]at h)|refine .inl ⟨_,Zbk (fr+1+(k:Int)),?_⟩|refine .inl ⟨_,Zbl (fr+1+(k:Int)),?_⟩|refine QI ?_|refine .inl ⟨wrap64 (by omega),?_⟩)<;>conv=>whnf))
 ·have hm:minB n mask (fr+1+(k:Int))=true:=by
   unfold minB;rw[qB (by assumption),Bool.true_and];exact qB h
  exact PSub.lit_sb (by rw[Z0a (k:=k) (by omega) hm])
 ·have hm:minB n mask (fr+1+(k:Int))=false:=by
   unfold minB;have:dayA mask (weekday (fr+1+(k:Int)))=false:=qG h;rw[this,Bool.and_false]
  refine⟨k+1,[],⟨by omega,fun j hj=>?_⟩,by omega,?_⟩
  ·by_cases e:j=k
   ·subst e;exact hm
   exact hinv j (by omega)
  (repeat'(first|exact QC|refine qa ?_ ?_))
  all_goals exact PSub.int (by omega)
 ·have hm:minB n mask (fr+1+(k:Int))=false:=by
   unfold minB;rw[qG h,Bool.false_and]
  refine⟨k+1,[],⟨by omega,fun j hj=>?_⟩,by omega,?_⟩
  ·by_cases e:j=k
   ·subst e;exact hm
   exact hinv j (by omega)
  (repeat'(first|exact QC|refine qa ?_ ?_))
  all_goals exact PSub.int (by omega)
 exact PSub.lit_sb (by rw[Z0d fun j hj=>hinv j (by omega)])
theorem ix_mem{l:List Key}{x:Key}:decide (0<=ixI l.length (firstI l.length fun i=>decide (x=l.getD i default)))=decide (x∈l):=by
 rw[Q6];rcases Z6y (n:=l.length) (p:=fun i=>decide (x=l.getD i default))with⟨h1,h2,_⟩|⟨h1,h2⟩
 ·rw[ixI,qK h1];have h3:=qC h2;refine⟨fun _=>?_,fun _=>by omega⟩;rw[h3,Z03 _ _ h1];exact qE h1
 rw[ixI,h1,qJ (qM _)];refine⟨fun h=>absurd h (by decide),fun h=>?_⟩;obtain⟨i,hi,e⟩:=qp h;have:=h2 i hi;rw[Z03 _ _ hi,e]at this;simp at this
theorem Zmp(l:List Key)(x:Key)(hl:smallL l):AC Tryz.prog 198 [.pv (roL 3 cKey l),.pv (.agg (cKey x))] [] (.pv (vint (ixI l.length (firstI l.length fun i=>decide (x=l.getD i default))))) []:=by
 have hl:l.length<=1048576:=hl;refine AC.of_awp (T:=T) T_ok hm Tryz.call198 Tryz.func198 rfl rfl rfl ?_
 conv=>whnf
 refine loop_k (ι:=Nat) [0,3,7] [3] (fun k=>k<=l.length∧(∀j,j<k->decide (x=l.getD j default)=false)) (fun k=>l.length-k) 0 (fun k=>[(8,.pv (vint k))]) (fun _=>[]) [] ⟨qe _,fun j h=>absurd h (by omega)⟩ ?_ (fun k hk=>?_)
 ·exact QD
 obtain⟨hkn,hinv⟩:=hk
 conv=>whnf
 repeat(any_goals((first|refine⟨QT ?_,QF ?_⟩<;>intro h<;>(try simp only[Q0,Q1,Q2,Q3,Q4,Q5,Q6,Q7,Q8,reduceCtorEq]at h)|refine QI ?_|refine QK ?_|refine .inl ⟨wrap64 (by omega),?_⟩)<;>conv=>whnf))
 ·have e:=(key_eq _ _).symm.trans h;exact PSub.int (by rw[Z0u (k:=k) (by omega) e hinv,ixI,qK (by omega)])
 ·have e:=(key_eq _ _).symm.trans h;refine⟨k+1,[],⟨by omega,?_⟩,by first|omega|(dsimp only;omega),?_⟩;rotate_left
  ·exact QD
  intro j hj
  by_cases e2:j=k
  ·subst e2;exact e
  exact hinv j (by omega)
 exact PSub.int (by rw[Z0z (fun j hj=>hinv j (by omega)),ixI,qJ (qM _)])
theorem Zmo(l:List Key)(x:Key)(hl:smallL l):AC Tryz.prog 199 [.pv (roL 3 cKey l),.pv (.agg (cKey x))] [] (.pv (vint (ixI l.length (firstI l.length fun i=>decide (x=l.getD i default))))) []:=by
 have hl:l.length<=1048576:=hl;refine AC.of_awp (T:=T) T_ok hm Tryz.call199 Tryz.func199 rfl rfl rfl ?_
 conv=>whnf
 refine loop_k (ι:=Nat) [0,3,7] [3] (fun k=>k<=l.length∧(∀j,j<k->decide (x=l.getD j default)=false)) (fun k=>l.length-k) 0 (fun k=>[(8,.pv (vint k))]) (fun _=>[]) [] ⟨qe _,fun j h=>absurd h (by omega)⟩ ?_ (fun k hk=>?_)
 ·exact QD
 obtain⟨hkn,hinv⟩:=hk
 conv=>whnf
 repeat(any_goals((first|refine⟨QT ?_,QF ?_⟩<;>intro h<;>(try simp only[Q0,Q1,Q2,Q3,Q4,Q5,Q6,Q7,Q8,reduceCtorEq]at h)|refine QI ?_|refine QK ?_|refine .inl ⟨wrap64 (by omega),?_⟩)<;>conv=>whnf))
 ·have e:=(key_eq _ _).symm.trans h;exact PSub.int (by rw[Z0u (k:=k) (by omega) e hinv,ixI,qK (by omega)])
 ·have e:=(key_eq _ _).symm.trans h;refine⟨k+1,[],⟨by omega,?_⟩,by first|omega|(dsimp only;omega),?_⟩;rotate_left
  ·exact QD
  intro j hj
  by_cases e2:j=k
  ·subst e2;exact e
  exact hinv j (by omega)
 exact PSub.int (by rw[Z0z (fun j hj=>hinv j (by omega)),ixI,qJ (qM _)])
theorem Zmh(l:List Key)(x:Key)(hl:smallL l):AC Tryz.prog 138 [.pv (roL 3 cKey l),.pv (.agg (cKey x))] [] (.pv (vbool (decide (x∈l)))) []:=by
 refine AC.of_awp (T:=T) T_ok hm Tryz.call138 Tryz.func138 rfl rfl rfl ?_
 conv=>whnf
 repeat(any_goals((first|refine .inl ⟨_,Zmp l x hl,?_⟩)<;>conv=>whnf))
 exact PSub.sb ix_mem
theorem Zmg(l:List Key)(x:Key)(hl:smallL l):AC Tryz.prog 139 [.pv (roL 3 cKey l),.pv (.agg (cKey x))] [] (.pv (vbool (decide (x∈l)))) []:=by
 refine AC.of_awp (T:=T) T_ok hm Tryz.call139 Tryz.func139 rfl rfl rfl ?_
 conv=>whnf
 repeat(any_goals((first|refine .inl ⟨_,Zmo l x hl,?_⟩)<;>conv=>whnf))
 exact PSub.sb ix_mem
structure normB (h:Hap):Prop where
 s:smallHp h
 f:-1<=h.fr∧h.fr<=1073741824
 t:h.to<=1073741824
theorem Zge(h:Hap)(hh:smallHp h):normB (normH h):=by
 have h1:h.changed.length<=1048576:=hh.c;have h2:h.events.length<=1048576:=hh.e;have h3:h.held.length<=1048576:=hh.h;exact⟨⟨qF (Z4v _) h1,qF (Z4v _) h2,qF (Z32 _) h3⟩,Zx6 _ _,(Ziw h.fr h.to).1⟩
theorem Zn3(x:Trg)(s:ByteArray)(p:Hap)(hh:normB p):AC Tryz.prog 89 [.pv (.agg (cTrg x)),.pv (vstr s),.pv (.agg (cHap p))] [] (.pv (vbool (trB x s p))) []:=by
 refine AC.of_awp (T:=T) T_ok hm Tryz.call89 Tryz.func89 rfl rfl rfl ?_
 conv=>whnf
 repeat(any_goals((first|refine⟨QT ?_,QF ?_⟩<;>intro h<;>(try simp only[Q0,Q1,Q2,Q3,Q4,Q5,Q6,Q7,Q8,reduceCtorEq]at h)|refine .inl ⟨_,Zmh p.changed x.key hh.s.c,?_⟩|refine .inl ⟨_,Zmg p.events (eK x.event) hh.s.e,?_⟩|refine .inl ⟨_,Znb p.fr p.to x.n x.m hh.f hh.t,?_⟩|refine .inl ⟨_,Z37 p.held 0 s hh.s.h,?_⟩)<;>conv=>whnf))
 all_goals first
  |(refine PSub.sb ?_;unfold trB;simp[*,memS];done)
  |(refine PSub.lit_sb ?_;unfold trB;simp[*,memS];done)
  |trace_state
theorem Zna(r:Rul)(p:Hap)(ho:smallL r.on)(hh:normB p):AC Tryz.prog 52 [.pv (.agg (cRul r)),.pv (.agg (cHap p))] [] (.pv (vbool (anyN r.on.length fun i=>trB (r.on.getD i default) r.name p))) []:=by
 have ho:r.on.length<=1048576:=ho;refine AC.of_awp (T:=T) T_ok hm Tryz.call52 Tryz.func52 rfl rfl rfl ?_
 conv=>whnf
 refine loop_k (ι:=Nat) [2,3,8,9] [2,3] (fun k=>k<=r.on.length∧(∀j,j<k->trB (r.on.getD j default) r.name p=false)) (fun k=>r.on.length-k) 0 (fun k=>[(10,.pv (vint k))]) (fun _=>[]) [] ⟨qe _,fun j h=>absurd h (by omega)⟩ ?_ (fun k hk=>?_)
 ·exact QD
 obtain⟨hkn,hinv⟩:=hk
 conv=>whnf
 repeat(any_goals((first|refine⟨QT ?_,QF ?_⟩<;>intro h<;>(try simp only[Q0,Q1,Q2,Q3,Q4,Q5,Q6,Q7,Q8,reduceCtorEq]at h)|refine .inl ⟨_,Zn3 (r.on.getD k default) r.name p hh,?_⟩|refine QI ?_|refine .inl ⟨wrap64 (by omega),?_⟩)<;>conv=>whnf))
 ·exact PSub.lit_sb (by rw[Z0a (k:=k) (by omega) h])
 ·refine⟨k+1,[],⟨by omega,?_⟩,by first|omega|(dsimp only;omega),?_⟩;rotate_left
  ·exact QD
  intro j hj
  by_cases e2:j=k
  ·subst e2;exact h
  exact hinv j (by omega)
 exact PSub.lit_sb (by rw[Z0d fun j hj=>hinv j (by omega)])
theorem Zmz(r:Rul)(p:Hap)(ho:smallL r.on)(hh:smallHp p):AC Tryz.prog 26 [.pv (.agg (cRul r)),.pv (.agg (cHap p))] [] (.pv (vbool (anyB r p))) []:=by
 refine AC.of_awp (T:=T) T_ok hm Tryz.call26 Tryz.func26 rfl rfl rfl ?_
 conv=>whnf
 repeat(any_goals((first|refine .inl ⟨_,Zn0 p hh,?_⟩|refine .inl ⟨_,Zna r (normH p) ho (Zge p hh),?_⟩|refine QK ?_)<;>conv=>whnf))
 all_goals exact .rfl
theorem no_fit(v:Val):fitsE noAttr v≠0:=by
 unfold fitsE;rw[qK (by decide)];decide
theorem set_no{s:Sco}{v:Vw}{x:Stp}{c:Cause}{i:Int}(h:¬((findA s.home x.key).isSome=true∧(evlE v x.expr).2=true∧fitsE ((findA s.home x.key).getD noAttr) (limX s v x)=0)):setW s v x c i = []:=qJ h
theorem Zhr{s:Sco}{v:Vw}{x:Stp}{c:Cause}{i:Int}(h2:(evlE v x.expr).2=true)(h3:fitsE ((findA s.home x.key).getD noAttr) (limX s v x)=0):setW s v x c i = [⟨x.key,limX s v x,c,i⟩]:=by
 refine qK ⟨?_,h2,h3⟩;cases hf:findA s.home x.key with
 |none=>rw[hf]at h3;exact absurd h3 (no_fit _)
 |some a=>rfl
theorem sce_no{s:Sco}{sc:List Scene}{x:Stp}{c:Cause}{i:Int}(h:¬(sceAt sc x.name<sc.length∧checkS s.home (findS sc x.name)=0)):sceW s sc x c i = []:=qJ h
theorem Zea{sc:List Scene}{n:ByteArray}(hl:∀i,i<sc.length->smallL (sc.getD i default).items):smallL (findS sc n).items:=by
 unfold findS;split
 ·exact hl _ ‹_›
 exact qe _
theorem Z8y{c:Clu}{d:Cmd}{p:Val}{vals:List Val}:∀n,(applyTo c d p vals n).length=vals.length
 |0=>rfl
 |n+1=>by rw[applyTo,stepL,List.length_set];exact Z8y n
theorem Zo1(c:Clu)(s:ByteArray)(p:Val)(vals:List Val):(applyL c s p vals).length<=vals.length:=by
 unfold applyL;split
 ·rw[Z8y];exact qL _
 exact qe _
theorem Z1b(l:List Item)(dev:Int)(k:Clu)(n:Nat):(bfrL l dev k n).length=n:=by simp[bfrL]
theorem Z96(l:List Item)(dev:Int)(k:Clu)(n:Nat):bfrL l dev k (n+1)=bfrL l dev k n ++ [befV l dev k n]:=by
 unfold bfrL;rw[List.range_succ,List.map_append];rfl
theorem Z8q(v:Vw)(x:Stp)(k:Clu):(aftL v x k).length<=k.attrs.length:=by
 have:=Zo1 k x.name (parX v x k) (bfrL v.items x.key.dev k k.attrs.length);rw[Z1b]at this;exact this
theorem Z95(l:List Item)(dev:Int)(k:Clu)(j:Nat):befV l dev k j=if itemAt l (keyX dev k j)<l.length then(getI l (keyX dev k j)).value else zeroV (k.attrs.getD j default):=by
 unfold befV;rw[Z6w]
 by_cases h:itemAt l (keyX dev k j)<l.length
 ·rw[qK h,qK h];have h2:=Z9s l (keyX dev k j);rw[Z6w,qK h]at h2;rw[h2];rfl
 rw[qJ h,qJ h]
def chgTo(v:Vw)(x:Stp)(k:Clu)(c:Cause)(i:Int)(n:Nat):List Write:=(List.range n).flatMap (chgW v x k c i)
theorem Z6k(v:Vw)(x:Stp)(k:Clu)(c:Cause)(i:Int)(n:Nat):chgTo v x k c i (n+1)=chgTo v x k c i n++chgW v x k c i n:=by
 unfold chgTo;rw[List.range_succ,List.flatMap_append];simp
theorem Z5c(v:Vw)(x:Stp)(k:Clu)(c:Cause)(i:Int):∀n,(chgTo v x k c i n).length<=n
 |0=>by simp[chgTo]
 |n+1=>by
  rw[Z6k,ql];have:=Z5c v x k c i n;have h2:(chgW v x k c i n).length<=1:=by unfold chgW;split<;>simp
  omega
end Go.Abs
