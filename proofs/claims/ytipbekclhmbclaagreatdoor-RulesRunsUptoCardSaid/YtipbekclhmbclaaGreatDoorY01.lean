/- YtipbekclhmbclaaGreatDoorY01: walks and contracts. -/
import Derived.Test.YtipbekclhmbclaaGreatDoorY00

set_option linter.unusedVariables false
set_option linter.unusedSimpArgs false
set_option linter.unusedSectionVars false

namespace Go.Abs
open Go.Proofs
set_option maxRecDepth 10000
theorem Zl2(x:Stp):AC Tryz.prog 227 [.pv (.agg (cStp x))] [] (.pv (vbool (if x.kind=1 then decide (x.name=⟨#[]⟩)else if x.kind=2 then decide (x.key.attr=⟨#[]⟩)else decide (x.key=noKey)&&zeroX x.expr))) []:=by
 refine AC.of_awp (T:=T) T_ok hm Tryz.call227 Tryz.func227 rfl rfl rfl ?_
 conv=>whnf
 repeat(any_goals((first|refine⟨QT ?_,QF ?_⟩<;>intro h<;>(try simp only[Q0,Q1,Q2,Q3,Q4,Q5,Q6,Q7,Q8,reduceCtorEq]at h)|refine .inl ⟨_,Zcd x.expr,?_⟩)<;>conv=>whnf))
 all_goals(try simp only[Z3x,Z3i,decide_true,Bool.and_true,Q1,Q0]at *)
 all_goals first
  |contradiction
  |(exfalso;omega)
  |exact PSub.rfl
  |(refine PSub.lit_sb ?_;(first|(simp[and_true, *];done)|(simp_all[and_true];done)|((try simp only[and_true]);(repeat' split)<;>(try simp only[qh,qj,qd,Q1,qc,Q0,Q6])<;>first|rfl|omega|(simp_all;done)|(simp_all;omega))))
  |(refine PSub.sb ?_;(first|(simp[and_true, *];done)|(simp_all[and_true];done)|((try simp only[and_true]);(repeat' split)<;>(try simp only[qh,qj,qd,Q1,qc,Q0,Q6])<;>first|rfl|omega|(simp_all;done)|(simp_all;omega))))
  |(refine PSub.sb_lit ?_;(first|(simp[and_true, *];done)|(simp_all[and_true];done)|((try simp only[and_true]);(repeat' split)<;>(try simp only[qh,qj,qd,Q1,qc,Q0,Q6])<;>first|rfl|omega|(simp_all;done)|(simp_all;omega))))
  |(refine PSub.int ?_;(first|(simp[and_true, *];done)|(simp_all[and_true];done)|((try simp only[and_true]);(repeat' split)<;>(try simp only[qh,qj,qd,Q1,qc,Q0,Q6])<;>first|rfl|omega|(simp_all;done)|(simp_all;omega))))
  |skip
set_option maxHeartbeats 1000000 in
theorem Zl1(x:Stp):AC Tryz.prog 171 [.pv (.agg (cStp x))] [] (.pv (vint (stpE x))) []:=by
 refine AC.of_awp (T:=T) T_ok hm Tryz.call171 Tryz.func171 rfl rfl rfl ?_
 conv=>whnf
 repeat(any_goals((first|refine⟨QT ?_,QF ?_⟩<;>intro h<;>(try simp only[Q0,Q1,Q2,Q3,Q4,Q5,Q6,Q7,Q8,reduceCtorEq]at h)|refine .inl ⟨_,Zl2 x,?_⟩|refine .inl ⟨_,Z8e x.key.dev,?_⟩|refine .inl ⟨_,Z0p x.key.cluster,?_⟩|refine .inl ⟨_,Z0p x.key.attr,?_⟩|refine .inl ⟨_,Z0p x.name,?_⟩|refine .inl ⟨_,Zcd x.expr,?_⟩|refine .inl ⟨_,Z6f x.expr,?_⟩)<;>conv=>whnf))
 all_goals first
  |contradiction
  |(exfalso;omega)
  |exact PSub.rfl
  |(refine PSub.lit_sb ?_;(first|(simp[stpE,namedE, *];done)|(simp_all[stpE,namedE];done)|((try simp only[stpE,namedE]);(repeat' split)<;>(try simp only[qh,qj,qd,Q1,qc,Q0,Q6])<;>first|rfl|omega|(simp_all;done)|(simp_all;omega))))
  |(refine PSub.sb ?_;(first|(simp[stpE,namedE, *];done)|(simp_all[stpE,namedE];done)|((try simp only[stpE,namedE]);(repeat' split)<;>(try simp only[qh,qj,qd,Q1,qc,Q0,Q6])<;>first|rfl|omega|(simp_all;done)|(simp_all;omega))))
  |(refine PSub.sb_lit ?_;(first|(simp[stpE,namedE, *];done)|(simp_all[stpE,namedE];done)|((try simp only[stpE,namedE]);(repeat' split)<;>(try simp only[qh,qj,qd,Q1,qc,Q0,Q6])<;>first|rfl|omega|(simp_all;done)|(simp_all;omega))))
  |(refine PSub.int ?_;(first|(simp[stpE,namedE, *];done)|(simp_all[stpE,namedE];done)|((try simp only[stpE,namedE]);(repeat' split)<;>(try simp only[qh,qj,qd,Q1,qc,Q0,Q6])<;>first|rfl|omega|(simp_all;done)|(simp_all;omega))))
  |skip
theorem Zl0(r:Rul):AC Tryz.prog 105 [.pv (.agg (cRul r))] [] (.pv (vint (rulE r))) []:=by
 refine AC.of_awp (T:=T) T_ok hm Tryz.call105 Tryz.func105 rfl rfl rfl ?_
 conv=>whnf
 repeat(any_goals((first|refine⟨QT ?_,QF ?_⟩<;>intro h<;>(try simp only[Q0,Q1,Q2,Q3,Q4,Q5,Q6,Q7,Q8,reduceCtorEq]at h)|refine .inl ⟨_,Z0p r.name,?_⟩)<;>conv=>whnf))
 all_goals first
  |contradiction
  |(exfalso;omega)
  |exact PSub.rfl
  |(refine PSub.lit_sb ?_;(first|(simp[rulE, *];done)|(simp_all[rulE];done)|((try simp only[rulE]);(repeat' split)<;>(try simp only[qh,qj,qd,Q1,qc,Q0,Q6])<;>first|rfl|omega|(simp_all;done)|(simp_all;omega))))
  |(refine PSub.sb ?_;(first|(simp[rulE, *];done)|(simp_all[rulE];done)|((try simp only[rulE]);(repeat' split)<;>(try simp only[qh,qj,qd,Q1,qc,Q0,Q6])<;>first|rfl|omega|(simp_all;done)|(simp_all;omega))))
  |(refine PSub.sb_lit ?_;(first|(simp[rulE, *];done)|(simp_all[rulE];done)|((try simp only[rulE]);(repeat' split)<;>(try simp only[qh,qj,qd,Q1,qc,Q0,Q6])<;>first|rfl|omega|(simp_all;done)|(simp_all;omega))))
  |(refine PSub.int ?_;(first|(simp[rulE, *];done)|(simp_all[rulE];done)|((try simp only[rulE]);(repeat' split)<;>(try simp only[qh,qj,qd,Q1,qc,Q0,Q6])<;>first|rfl|omega|(simp_all;done)|(simp_all;omega))))
  |skip
 rename_i hv hp0 hp1 ho1 ho8 hd1;have hcut:rulE r=if firstE r.on.length (fun i=>trgE (r.on.getD i default))≠0 then firstE r.on.length (fun i=>trgE (r.on.getD i default))else if exE r.cond≠0 then exE r.cond else firstE r.steps.length fun i=>stpE (r.steps.getD i default):=by
  unfold rulE;rw[qJ (by rw[hv];decide),qJ (by omega),qJ (by omega)]
 refine loop_k (ι:=Nat) [1,43] [1] (fun k=>k<=r.on.length∧∀j,j<k->trgE (r.on.getD j default)=0) (fun k=>r.on.length-k) 0 (fun k=>[(44,.pv (vint k))]) (fun _=>[]) [] ⟨qe _,fun j h=>absurd h (by omega)⟩ ?_ (fun k hk=>?_)
 ·exact QD
 obtain⟨hkn,hinv⟩:=hk
 conv=>whnf
 repeat(any_goals((first|refine⟨QT ?_,QF ?_⟩<;>intro h<;>(try simp only[Q0,Q1,Q2,Q3,Q4,Q5,Q6,Q7,Q8,reduceCtorEq]at h)|refine .inl ⟨_,Zl3 (r.on.getD k default),?_⟩|refine QI ?_|refine .inl ⟨wrap64 (by omega),?_⟩)<;>conv=>whnf))
 ·have e:=Z06 (n:=r.on.length) (f:=fun i=>trgE (r.on.getD i default)) (by omega) h hinv;rw[hcut,e,qK h];exact PSub.rfl
 ·refine⟨k+1,[],⟨by omega,?_⟩,by first|omega|(dsimp only;omega),?_⟩;rotate_left
  ·exact QD
  intro j hj
  by_cases e:j=k
  ·subst e;first|exact h|simpa[-List.getD_eq_getElem?_getD]using h|simp_all[-List.getD_eq_getElem?_getD]
  exact hinv j (by omega)
 have e1:=Z0c (n:=r.on.length) (f:=fun i=>trgE (r.on.getD i default)) (fun j hj=>hinv j (by omega));rw[e1,qJ (by simp)]at hcut;clear hkn hinv
 repeat(any_goals((first|refine⟨QT ?_,QF ?_⟩<;>intro h<;>(try simp only[Q0,Q1,Q2,Q3,Q4,Q5,Q6,Q7,Q8,reduceCtorEq]at h)|refine .inl ⟨_,Z6f r.cond,?_⟩)<;>conv=>whnf))
 ·rw[hcut,qK h];exact PSub.rfl
 rw[qJ (by simpa using h)]at hcut;refine loop_k (ι:=Nat) [1,65] [1] (fun q=>q<=r.steps.length∧∀j,j<q->stpE (r.steps.getD j default)=0) (fun q=>r.steps.length-q) 0 (fun q=>[(66,.pv (vint q))]) (fun _=>[]) [] ⟨qe _,fun j h=>absurd h (by omega)⟩ ?_ (fun q hk=>?_)
 ·exact QD
 obtain⟨hkn,hinv⟩:=hk
 conv=>whnf
 repeat(any_goals((first|refine⟨QT ?_,QF ?_⟩<;>intro h<;>(try simp only[Q0,Q1,Q2,Q3,Q4,Q5,Q6,Q7,Q8,reduceCtorEq]at h)|refine .inl ⟨_,Zl1 (r.steps.getD q default),?_⟩|refine QI ?_|refine .inl ⟨wrap64 (by omega),?_⟩)<;>conv=>whnf))
 ·have e:=Z06 (n:=r.steps.length) (f:=fun i=>stpE (r.steps.getD i default)) (by omega) h hinv;rw[hcut,e];exact PSub.rfl
 ·refine⟨q+1,[],⟨by omega,?_⟩,by first|omega|(dsimp only;omega),?_⟩;rotate_left
  ·exact QD
  intro j hj
  by_cases e:j=q
  ·subst e;first|exact h|simpa[-List.getD_eq_getElem?_getD]using h|simp_all[-List.getD_eq_getElem?_getD]
  exact hinv j (by omega)
 rw[hcut,Z0c (fun j hj=>hinv j (by omega))];exact PSub.rfl
theorem Zlc(s:Sco)(t:Trg)(hs:smallS s):AC Tryz.prog 106 [.pv (.agg (cSco s)),.pv (.agg (cTrg t))] [] (.pv (vint (fireE s t))) []:=by
 have hk:=Z5r hs.1 (id:=t.event.dev) (s:=t.event.cluster);refine AC.of_awp (T:=T) T_ok hm Tryz.call106 Tryz.func106 rfl rfl rfl ?_
 conv=>whnf
 repeat(any_goals((first|refine⟨QT ?_,QF ?_⟩<;>intro h<;>(try simp only[Q0,Q1,Q2,Q3,Q4,Q5,Q6,Q7,Q8,reduceCtorEq]at h)|refine .inl ⟨_,Z40 s.home t.key hs.1,?_⟩|refine .inl ⟨_,Z6e s.home t.event.dev t.event.cluster hs.1,?_⟩|refine .inl ⟨_,Z1a ((partO s.home t.event.dev t.event.cluster).getD noClu).events t.event.name hk.2.2.2.2,?_⟩|refine .inl ⟨_,Z1a s.modes t.name hs.2.1,?_⟩)<;>conv=>whnf))
 all_goals first
  |contradiction
  |(exfalso;omega)
  |exact PSub.rfl
  |(refine PSub.lit_sb ?_;(first|(simp[fireE, *];done)|(simp_all[fireE];done)|((try simp only[fireE]);(repeat' split)<;>(try simp only[qh,qj,qd,Q1,qc,Q0,Q6])<;>first|rfl|omega|(simp_all;done)|(simp_all;omega))))
  |(refine PSub.sb ?_;(first|(simp[fireE, *];done)|(simp_all[fireE];done)|((try simp only[fireE]);(repeat' split)<;>(try simp only[qh,qj,qd,Q1,qc,Q0,Q6])<;>first|rfl|omega|(simp_all;done)|(simp_all;omega))))
  |(refine PSub.sb_lit ?_;(first|(simp[fireE, *];done)|(simp_all[fireE];done)|((try simp only[fireE]);(repeat' split)<;>(try simp only[qh,qj,qd,Q1,qc,Q0,Q6])<;>first|rfl|omega|(simp_all;done)|(simp_all;omega))))
  |(refine PSub.int ?_;(first|(simp[fireE, *];done)|(simp_all[fireE];done)|((try simp only[fireE]);(repeat' split)<;>(try simp only[qh,qj,qd,Q1,qc,Q0,Q6])<;>first|rfl|omega|(simp_all;done)|(simp_all;omega))))
  |skip
theorem Zl9(s:Sco)(x:Stp)(hs:smallS s):AC Tryz.prog 173 [.pv (.agg (cSco s)),.pv (.agg (cStp x))] [] (.pv (.tup [.agg (cCmd ((comO s x).getD noCmd)),vbool (comO s x).isSome])) []:=by
 have hk:=Z5r hs.1 (id:=x.key.dev) (s:=x.key.cluster);refine AC.of_awp (T:=T) T_ok hm Tryz.call173 Tryz.func173 rfl rfl rfl ?_
 conv=>whnf
 repeat(any_goals((first|refine⟨QT ?_,QF ?_⟩<;>intro h<;>(try simp only[Q0,Q1,Q2,Q3,Q4,Q5,Q6,Q7,Q8,reduceCtorEq]at h)|refine .inl ⟨_,Z6e s.home x.key.dev x.key.cluster hs.1,?_⟩|refine .inl ⟨_,Z8a ((partO s.home x.key.dev x.key.cluster).getD noClu) x.name hk,?_⟩)<;>conv=>whnf))
 ·rw[Zdl h];refine⟨?_,?_⟩<;>(conv=>whnf)
  ·refine PSub.agg ?_
   all_goals exact QE
  exact PSub.lit_sb rfl
 rw[Z5d h]
 by_cases c:cmdAt ((partO s.home x.key.dev x.key.cluster).getD noClu).commands x.name<((partO s.home x.key.dev x.key.cluster).getD noClu).commands.length
 ·rw[qK c];refine⟨?_,?_⟩<;>(conv=>whnf)
  ·exact PSub.rfl
  exact PSub.sb (qB c)
 rw[qJ c];refine⟨?_,?_⟩<;>(conv=>whnf)
 ·rw[show cmdOf ((partO s.home x.key.dev x.key.cluster).getD noClu).commands x.name=noCmd from qJ c];exact PSub.rfl
 exact PSub.sb (qG c)
set_option maxHeartbeats 1000000 in
theorem Zlb(s:Sco)(x:Stp)(hs:smallS s):AC Tryz.prog 108 [.pv (.agg (cSco s)),.pv (.agg (cStp x))] [] (.pv (vint (doE s x))) []:=by
 have hcom:comE s x=if(comO s x).isSome=false then 8 else if((comO s x).getD noCmd).param.kind≠0 then wantK s x.expr ((comO s x).getD noCmd).param.kind else if zeroX x.expr=true then 0 else 1:=by
  unfold comE;cases comO s x<;>rfl
 refine AC.of_awp (T:=T) T_ok hm Tryz.call108 Tryz.func108 rfl rfl rfl ?_
 conv=>whnf
 repeat(any_goals((first|refine⟨QT ?_,QF ?_⟩<;>intro h<;>(try simp only[Q0,Q1,Q2,Q3,Q4,Q5,Q6,Q7,Q8,reduceCtorEq]at h)|refine .inl ⟨_,Z40 s.home x.key hs.1,?_⟩|refine .inl ⟨_,Z8f s x.expr ((findA s.home x.key).getD noAttr).kind hs,?_⟩|refine .inl ⟨_,Zl9 s x hs,?_⟩|refine .inl ⟨_,Z8f s x.expr ((comO s x).getD noCmd).param.kind hs,?_⟩|refine .inl ⟨_,Zcb x.expr,?_⟩|refine .inl ⟨_,Z1a s.scenes x.name hs.2.2,?_⟩|refine .inl ⟨_,Z1a s.modes x.name hs.2.1,?_⟩)<;>conv=>whnf))
 all_goals first
  |contradiction
  |(exfalso;omega)
  |exact PSub.rfl
  |(refine PSub.lit_sb ?_;(first|(simp[doE,hcom, *];done)|(simp_all[doE,hcom];done)|((try simp only[doE,hcom]);(repeat' split)<;>(try simp only[qh,qj,qd,Q1,qc,Q0,Q6])<;>first|rfl|omega|(simp_all;done)|(simp_all;omega))))
  |(refine PSub.sb ?_;(first|(simp[doE,hcom, *];done)|(simp_all[doE,hcom];done)|((try simp only[doE,hcom]);(repeat' split)<;>(try simp only[qh,qj,qd,Q1,qc,Q0,Q6])<;>first|rfl|omega|(simp_all;done)|(simp_all;omega))))
  |(refine PSub.sb_lit ?_;(first|(simp[doE,hcom, *];done)|(simp_all[doE,hcom];done)|((try simp only[doE,hcom]);(repeat' split)<;>(try simp only[qh,qj,qd,Q1,qc,Q0,Q6])<;>first|rfl|omega|(simp_all;done)|(simp_all;omega))))
  |(refine PSub.int ?_;(first|(simp[doE,hcom, *];done)|(simp_all[doE,hcom];done)|((try simp only[doE,hcom]);(repeat' split)<;>(try simp only[qh,qj,qd,Q1,qc,Q0,Q6])<;>first|rfl|omega|(simp_all;done)|(simp_all;omega))))
  |skip
theorem Zl7(s:Sco)(r:Rul)(hs:smallS s):AC Tryz.prog 62 [.pv (.agg (cSco s)),.pv (.agg (cRul r))] [] (.pv (vint (ruleE s r))) []:=by
 refine AC.of_awp (T:=T) T_ok hm Tryz.call62 Tryz.func62 rfl rfl rfl ?_
 conv=>whnf
 repeat(any_goals((first|refine⟨QT ?_,QF ?_⟩<;>intro h<;>(try simp only[Q0,Q1,Q2,Q3,Q4,Q5,Q6,Q7,Q8,reduceCtorEq]at h)|refine .inl ⟨_,Zl0 r,?_⟩)<;>conv=>whnf))
 ·rw[ruleE,qK h];exact PSub.rfl
 have hr0:rulE r=0:=by simpa using h
 have h8:r.on.length<=8∧r.steps.length<=8:=Z5w hr0;have hcut:ruleE s r=if firstE r.on.length (fun i=>fireE s (r.on.getD i default))≠0 then firstE r.on.length (fun i=>fireE s (r.on.getD i default))else if wantK s r.cond 1≠0 then wantK s r.cond 1 else firstE r.steps.length fun i=>doE s (r.steps.getD i default):=by
  unfold ruleE;rw[qJ (by simpa using h)]
 clear h;refine loop_k (ι:=Nat) [2,3] [2,3] (fun k=>k<=r.on.length∧∀j,j<k->fireE s (r.on.getD j default)=0) (fun k=>r.on.length-k) 0 (fun k=>[(6,.pv (vint k))]) (fun _=>[]) [] ⟨qe _,fun j h=>absurd h (by omega)⟩ ?_ (fun k hk=>?_)
 ·exact QD
 obtain⟨hkn,hinv⟩:=hk
 conv=>whnf
 repeat(any_goals((first|refine⟨QT ?_,QF ?_⟩<;>intro h<;>(try simp only[Q0,Q1,Q2,Q3,Q4,Q5,Q6,Q7,Q8,reduceCtorEq]at h)|refine .inl ⟨_,Zlc s (r.on.getD k default) hs,?_⟩|refine QI ?_|refine QK ?_|refine .inl ⟨wrap64 (by omega),?_⟩)<;>conv=>whnf))
 ·have e:=Z06 (n:=r.on.length) (f:=fun i=>fireE s (r.on.getD i default)) (by omega) h hinv;rw[hcut,e,qK h];exact PSub.rfl
 ·refine⟨k+1,[],⟨by omega,?_⟩,by first|omega|(dsimp only;omega),?_⟩;rotate_left
  ·exact QD
  intro j hj
  by_cases e:j=k
  ·subst e;first|exact h|simpa[-List.getD_eq_getElem?_getD]using h|simp_all[-List.getD_eq_getElem?_getD]
  exact hinv j (by omega)
 have e1:=Z0c (n:=r.on.length) (f:=fun i=>fireE s (r.on.getD i default)) (fun j hj=>hinv j (by omega));rw[e1,qJ (by simp)]at hcut;clear hkn hinv
 repeat(any_goals((first|refine⟨QT ?_,QF ?_⟩<;>intro h<;>(try simp only[Q0,Q1,Q2,Q3,Q4,Q5,Q6,Q7,Q8,reduceCtorEq]at h)|refine .inl ⟨_,Z8f s r.cond 1 hs,?_⟩)<;>conv=>whnf))
 ·rw[hcut,qK h];exact PSub.rfl
 rw[qJ (by simpa using h)]at hcut;refine loop_k (ι:=Nat) [2,3] [2,3] (fun q=>q<=r.steps.length∧∀j,j<q->doE s (r.steps.getD j default)=0) (fun q=>r.steps.length-q) 0 (fun q=>[(9,.pv (vint q))]) (fun _=>[]) [] ⟨qe _,fun j h=>absurd h (by omega)⟩ ?_ (fun q hk=>?_)
 ·exact QD
 obtain⟨hkn,hinv⟩:=hk
 conv=>whnf
 repeat(any_goals((first|refine⟨QT ?_,QF ?_⟩<;>intro h<;>(try simp only[Q0,Q1,Q2,Q3,Q4,Q5,Q6,Q7,Q8,reduceCtorEq]at h)|refine .inl ⟨_,Zlb s (r.steps.getD q default) hs,?_⟩|refine QI ?_|refine QK ?_|refine .inl ⟨wrap64 (by omega),?_⟩)<;>conv=>whnf))
 ·have e:=Z06 (n:=r.steps.length) (f:=fun i=>doE s (r.steps.getD i default)) (by omega) h hinv;rw[hcut,e];exact PSub.rfl
 ·refine⟨q+1,[],⟨by omega,?_⟩,by first|omega|(dsimp only;omega),?_⟩;rotate_left
  ·exact QD
  intro j hj
  by_cases e:j=q
  ·subst e;first|exact h|simpa[-List.getD_eq_getElem?_getD]using h|simp_all[-List.getD_eq_getElem?_getD]
  exact hinv j (by omega)
 rw[hcut,Z0c (fun j hj=>hinv j (by omega))];exact PSub.rfl
set_option maxHeartbeats 1000000 in
theorem Zl8(s:Sco)(l:List Rul)(hs:smallS s):AC Tryz.prog 33 [.pv (.agg (cSco s)),.pv (roL 15 cRul l)] [] (.pv (.tup [vint (rulesE s l).1,vint (rulesE s l).2])) []:=by
 refine AC.of_awp (T:=T) T_ok hm Tryz.call33 Tryz.func33 rfl rfl rfl ?_
 conv=>whnf
 refine⟨fun h=>?_,fun h=>?_⟩<;>(try simp only[Q0,Q1,Q2,Q3,Q4,Q5,Q6,Q7,Q8,reduceCtorEq]at h)<;>(conv=>whnf)
 ·rw[rulesE,qK (by omega)]
  skip
  refine⟨?_,?_⟩<;>(conv=>whnf)
  all_goals exact PSub.rfl
 have h40:¬40<l.length:=by omega
 refine loop_k (ι:=Nat) [1,2] [2] (fun k=>k<=l.length∧∀j,j<k->atE s l j=0) (fun k=>l.length-k) 0 (fun k=>[(6,.pv (vint k))]) (fun _=>[]) [] ⟨qe _,fun j h=>absurd h (by omega)⟩ ?_ (fun k hk=>?_)
 ·exact QD
 obtain⟨hkn,hinv⟩:=hk
 conv=>whnf
 repeat(any_goals((first|refine⟨QT ?_,QF ?_⟩<;>intro h<;>(try simp only[Q0,Q1,Q2,Q3,Q4,Q5,Q6,Q7,Q8,reduceCtorEq]at h)|refine .inl ⟨_,Zl7 s (l.getD k default) hs,?_⟩|refine QI ?_|refine QK ?_)<;>conv=>whnf))
 ·have e:atE s l k=ruleE s (l.getD k default):=by rw[atE,qK h]
  rw[Z7n (k:=k) h40 (by omega) (by rw[e];exact h) hinv,e];refine⟨?_,?_⟩<;>(conv=>whnf)
  all_goals exact PSub.rfl
 ·have hk:k<l.length:=by omega
  have hat:=Zd3 (s:=s) hk h;refine loop_k (ι:=Nat) [1,2,6] [2] (fun q=>q<=k∧∀j,j<q->(l.getD j default).name≠(l.getD k default).name) (fun q=>k-q) 0 (fun q=>[(8,.pv (vint q))]) (fun _=>[]) [] ⟨qe _,fun j h=>absurd h (by omega)⟩ ?_ (fun q hk=>?_)
  ·exact QD
  obtain⟨hkn,hinv⟩:=hk
  conv=>whnf
  rename_i hinv0 hkn0
  repeat(any_goals((first|refine⟨QT ?_,QF ?_⟩<;>intro h<;>(try simp only[Q0,Q1,Q2,Q3,Q4,Q5,Q6,Q7,Q8,reduceCtorEq]at h)|refine QI ?_|refine QK ?_|refine .inl ⟨wrap64 (by omega),?_⟩)<;>conv=>whnf))
  ·have hm:memN (l.map Rul.name) k (l.getD k default).name=true:=Z4m (k:=q) (by omega) (by rw[Z7l (by omega)];exact h);rw[qK hm]at hat;rw[Z7n (k:=k) h40 hk (by rw[hat];decide) hinv0,hat];refine⟨?_,?_⟩<;>(conv=>whnf)
   all_goals exact PSub.rfl
  ·refine⟨q+1,[],⟨by omega,?_⟩,by first|omega|(dsimp only;omega),?_⟩;rotate_left
   ·exact QD
   intro j hj
   by_cases e:j=q
   ·subst e;first|exact h|simpa[-List.getD_eq_getElem?_getD]using h|simp_all[-List.getD_eq_getElem?_getD]
   exact hinv j (by omega)
  have hm:¬memN (l.map Rul.name) k (l.getD k default).name=true:=by
   rw[Z7d fun j hj=>by rw[Z7l (by omega)];exact hinv j (by omega)];decide
  rw[if_neg hm]at hat;refine⟨k+1,[],⟨by omega,?_⟩,by first|omega|(dsimp only;omega),?_⟩;rotate_left
  ·exact QD
  intro j hj
  by_cases e:j=k
  ·subst e;exact hat
  exact hinv0 j (by omega)
 rw[Zhg h40 fun j hj=>hinv j (by omega)];refine⟨?_,?_⟩<;>(conv=>whnf)
 all_goals exact PSub.rfl
theorem Zlo(H:Hom)(s:Scene)(hH:smallH H)(hs:smallL s.items):AC Tryz.prog 120 [.pv (.agg (cHom H)),.pv (.agg (cSce s))] [] (.pv (vint (checkS H s))) []:=by
 have hl:s.items.length<=1048576:=hs;refine AC.of_awp (T:=T) T_ok hm Tryz.call120 Tryz.func120 rfl rfl rfl ?_
 conv=>whnf
 repeat(any_goals((first|refine⟨QT ?_,QF ?_⟩<;>intro h<;>(try simp only[Q0,Q1,Q2,Q3,Q4,Q5,Q6,Q7,Q8,reduceCtorEq]at h)|refine .inl ⟨_,Z8b H hH,?_⟩|refine .inl ⟨_,Z0p s.name,?_⟩)<;>conv=>whnf))
 ·exact PSub.int (by rw[checkS,qK h])
 ·rename_i h0;exact PSub.int (by rw[checkS,qJ (by simpa using h0),qK h])
 ·rename_i h0 h1;exact PSub.int (by rw[checkS,qJ (by simpa using h0),qJ (by simp[h1]),qK (by omega)])
 rename_i h0 h1;have e0:checkS H s=firstE s.items.length (sceE H s.items):=by rw[checkS,qJ (by simpa using h0),qJ (by simp[h1]),qJ (by omega)]
 rw[e0];clear e0;refine loop_k (ι:=Nat) [2,3,25] [2,3] (fun k=>k<=s.items.length∧(∀j,j<k->sceE H s.items j=0)) (fun k=>s.items.length-k) 0 (fun k=>[(26,.pv (vint k))]) (fun _=>[]) [] ⟨qe _,fun j h=>absurd h (by omega)⟩ ?_ (fun k hk=>?_)
 ·exact QD
 obtain⟨hkn,hinv⟩:=hk
 conv=>whnf
 have hk1:((k:Int)-1).toNat=k-1:=by omega
 repeat(any_goals((first|refine⟨QT ?_,QF ?_⟩<;>intro h<;>(try simp only[Q0,Q1,Q2,Q3,Q4,Q5,Q6,Q7,Q8,reduceCtorEq]at h)|refine .inl ⟨_,Z40 H (s.items.getD k default).key hH,?_⟩|refine .inl ⟨_,Z34 ((findA H (s.items.getD k default).key).getD noAttr) (s.items.getD k default).value (Z60 hH),?_⟩|refine .inl ⟨_,Z53 (s.items.getD ((k:Int)-1).toNat default).key (s.items.getD k default).key,?_⟩|refine QI ?_|refine QK ?_|refine .inl ⟨wrap64 (by omega),?_⟩)<;>conv=>whnf))
 ·have e:sceE H s.items k=8:=by simp only[sceE,qK h]
  exact PSub.int (by rw[Z06 (k:=k) (by omega) (by rw[e];decide) hinv,e])
 ·have e:sceE H s.items k=24:=by simp[sceE, *,-List.getD_eq_getElem?_getD]
  exact PSub.int (by rw[Z06 (k:=k) (by omega) (by rw[e];decide) hinv,e])
 ·have e:sceE H s.items k=fitsE ((findA H (s.items.getD k default).key).getD noAttr) (s.items.getD k default).value:=by
   simp only[sceE, *,Bool.true_eq_false,if_false];exact qK h
  exact PSub.int (by rw[Z06 (k:=k) (by omega) (by rw[e];exact h) hinv,e])
 ·have e:sceE H s.items k=2:=by simp[sceE, *,-List.getD_eq_getElem?_getD]
  exact PSub.int (by rw[Z06 (k:=k) (by omega) (by rw[e];decide) hinv,e])
 ·rename_i hk;rw[hk1]at h;have e:sceE H s.items k=14:=by simp[sceE, *,-List.getD_eq_getElem?_getD];omega
  exact PSub.int (by rw[Z06 (k:=k) (by omega) (by rw[e];decide) hinv,e])
 ·rename_i hk;rw[hk1]at h;have e:sceE H s.items k=0:=by simp[sceE, *,-List.getD_eq_getElem?_getD]
  refine⟨k+1,[],⟨by omega,?_⟩,by first|omega|(dsimp only;omega),?_⟩;rotate_left
  ·exact QD
  intro j hj
  by_cases ej:j=k
  ·subst ej;exact e
  exact hinv j (by omega)
 ·have e:sceE H s.items k=0:=by simp[sceE, *,-List.getD_eq_getElem?_getD];omega
  refine⟨k+1,[],⟨by omega,?_⟩,by first|omega|(dsimp only;omega),?_⟩;rotate_left
  ·exact QD
  intro j hj
  by_cases ej:j=k
  ·subst ej;exact e
  exact hinv j (by omega)
 exact PSub.int (by rw[Z0c fun j hj=>hinv j (by omega)])
def putRest(l:List Key)(k:Key)(done:Bool):List Key:=if done=true then l.filter (fun y=>decide (y≠k))else putK l k
theorem Z5s{l:List Key}{x k:Key}{done:Bool}:putRest (x::l) k done =
  (if done=false∧keyLess x k=false then [k]else [])++(if x≠k then [x]else [])++putRest l k (done || !keyLess x k):=by
 cases done with
 |true=>
  simp only[putRest,Bool.true_or,if_true,List.filter_cons]
  by_cases e:x=k
  ·simp[e]
  simp[e]
 |false=>
  simp only[putRest,Bool.false_or,Bool.false_eq_true,if_false];rw[show putK (x::l) k=if keyLess x k=true then x::putK l k else k ::(x::l).filter fun y=>decide (y≠k)from rfl];cases h:keyLess x k with
  |true=>
   have hne:x≠k:=fun e=>by rw[e,Z15]at h;cases h
   simp[hne]
  |false=>
   by_cases e:x=k
   ·simp[e]
   simp[e]
theorem Zks(l:List Key)(q:Key)(hl:l.length<=8388608):AC Tryz.prog 176 [.pv (roL 3 cKey l),.pv (.agg (cKey q))] [] (.pv (roL 3 cKey (putK l q))) []:=by
 refine AC.of_awp (T:=T) T_ok hm Tryz.call176 Tryz.func176 rfl rfl rfl ?_
 conv=>whnf
 refine loop_k (ι:=Nat×List Key×Bool) [0,3] [3] (fun x=>x.1<=l.length∧x.2.1.length<=x.1+x.2.2.toNat∧putK l q=x.2.1++putRest (l.drop x.1) q x.2.2) (fun x=>l.length-x.1) (0,[],false) (fun x=>[(5,.own 500),(6,.pv (.sb x.2.2)),(7,.pv (vint x.1))]) (fun x=>[(500,rowL 3 cKey x.2.1)]) [] ⟨qe _,by simp,by simp[putRest]⟩ ?_ (fun x hx=>?_)
 ·(repeat'(first|exact QC|refine qa ?_ ?_))
  all_goals exact PSub.lit_sb rfl
 obtain⟨k,acc,done⟩:=x;obtain⟨hkn,hacc,hinv⟩:=hx;simp only at hkn hacc hinv;dsimp only;have hb:done.toNat<=1:=by cases done<;>decide
 have hd:k<l.length->l.drop k=l.getD k default::l.drop (k+1):=fun h=>by rw[Z03 _ _ h];exact List.drop_eq_getElem_cons h
 have row2:∀(F G:Nat->List PV) (x:Key),(∀i,i<(acc ++ [q]).length->PSubs (F i) (cKey ((acc ++ [q]).getD i default)))->(∀i,i<acc.length+1->G i=F i)->PSubs (G (acc.length+1)) (cKey x)->∀i,i<(acc ++ [q] ++ [x]).length->PSubs (G i) (cKey ((acc ++ [q] ++ [x]).getD i default)):=by
  intro F G x h1 h2 h3;refine Z05 (fun i hi=>?_) (by simpa using h3);rw[h2 i (by simpa using hi)];exact h1 i hi
 conv=>whnf
 repeat(any_goals((first|refine⟨QT ?_,QF ?_⟩<;>intro h<;>(try simp only[Q0,Q1,Q2,Q3,Q4,Q5,Q6,Q7,Q8,reduceCtorEq]at h)|refine .inl ⟨_,Z53 (l.getD k default) q,?_⟩|refine QI ?_|refine QK ?_|refine .inl ⟨wrap64 (by omega),?_⟩)<;>conv=>whnf))
 ·rename_i hlt hdn hless;rw[key_eq]at h;simp only[decide_eq_false_iff_not]at h;rw[hdn]at hacc;rw[hd (by omega),Z5s,hdn,hless,if_pos ⟨rfl,rfl⟩,if_pos h]at hinv;refine⟨(k+1,acc ++ [q] ++ [l.getD k default],true),[(500,41)],⟨by dsimp only;omega,by simp at *;omega,by rw[hinv];simp⟩,by dsimp only;omega,?_⟩;dsimp only;(repeat'(first|exact QC|refine And.intro ?_ ?_))
  ·simp
  ·refine row2 (fun i=>if i<acc.length then cKey (acc.getD i default)else cKey q) _ _ ?_ (fun i hi=>?_) ?_
   ·refine Z05 (fun i hi=>by simp only[qK hi];exact PSubs.rfl) (by simp only[qJ (qM _),Nat.sub_self];exact PSubs.rfl)
   ·simp only[qK hi]
    by_cases e:i<acc.length
    ·simp only[qK e]
    simp only[qJ e,show i-acc.length=0 from by omega];rfl
   simp only[qJ (qM _),Nat.sub_self];exact PSubs.rfl
  all_goals exact PSub.lit_sb rfl
 ·rename_i hlt hdn hless;rw[key_eq]at h;simp only[decide_eq_true_eq]at h;rw[hdn]at hacc;rw[hd (by omega),Z5s,hdn,hless,if_pos ⟨rfl,rfl⟩,if_neg (fun hn=>hn h)]at hinv;refine⟨(k+1,acc ++ [q],true),[(500,28)],⟨by dsimp only;omega,by simp at *;omega,by rw[hinv];simp⟩,by dsimp only;omega,?_⟩;dsimp only;(repeat'(first|exact QC|refine And.intro ?_ ?_))
  ·simp
  ·refine Z05 (fun i hi=>by simp only[qK hi];exact PSubs.rfl) (by simp only[qJ (qM _),Nat.sub_self];exact PSubs.rfl)
  all_goals exact PSub.lit_sb rfl
 ·rename_i hlt hdn hless;rw[key_eq]at h;simp only[decide_eq_false_iff_not]at h;rw[hd (by omega),Z5s,hless,if_neg (fun hn=>by cases hn.2),if_pos h]at hinv;refine⟨(k+1,acc ++ [l.getD k default],done),[(500,41)],⟨by dsimp only;omega,by simp at *;omega,by rw[hinv];simp⟩,by dsimp only;omega,?_⟩;dsimp only;(repeat'(first|exact QC|refine And.intro ?_ ?_))
  ·simp
  refine Z05 (fun i hi=>by simp only[qK hi];exact PSubs.rfl) (by simp only[qJ (qM _),Nat.sub_self];exact PSubs.rfl)
 ·rename_i hlt hdn hless;rw[key_eq]at h;simp only[Q0]at h;rw[h,Z15]at hless;cases hless
 ·rename_i hlt hdn;rw[key_eq]at h;simp only[decide_eq_false_iff_not]at h;rw[hd (by omega),Z5s,hdn,if_neg (fun hn=>by cases hn.1),if_pos h]at hinv;refine⟨(k+1,acc ++ [l.getD k default],done),[(500,41)],⟨by dsimp only;omega,by simp at *;omega,by rw[hinv,hdn];simp⟩,by dsimp only;omega,?_⟩;dsimp only;(repeat'(first|exact QC|refine And.intro ?_ ?_))
  ·simp
  refine Z05 (fun i hi=>by simp only[qK hi];exact PSubs.rfl) (by simp only[qJ (qM _),Nat.sub_self];exact PSubs.rfl)
 ·rename_i hlt hdn;rw[key_eq]at h;simp only[decide_eq_true_eq]at h;rw[hd (by omega),Z5s,hdn,if_neg (fun hn=>by cases hn.1),if_neg (fun hn=>hn h)]at hinv;refine⟨(k+1,acc,done),[],⟨by dsimp only;omega,by simp at *;omega,by rw[hinv,hdn];simp⟩,by dsimp only;omega,?_⟩;dsimp only;(repeat'(first|exact QC|refine And.intro ?_ ?_));intro i hi;exact PSubs.rfl
 ·rw[List.drop_eq_nil_of_le (by omega),h]at hinv;have hinv:putK l q=acc ++ [q]:=hinv;rw[hinv];refine PSub.ro (by simp) (fun i hi=>?_);revert i;rw[show acc.length+1=(acc ++ [q]).length from by simp];refine Z05 (fun i hi=>by simp only[qK hi];exact PSubs.rfl) (by simp only[qJ (qM _),Nat.sub_self];exact PSubs.rfl)
 rw[List.drop_eq_nil_of_le (by omega),h]at hinv;have hinv:putK l q=acc ++ []:=hinv;rw[hinv,List.append_nil];exact .rfl
variable [Globals]
theorem Zpf(v:Vw)(l:List Ex)(k:Nat)(h:k<l.length):(evL v l).take (k+1)=(evL v l).take k ++ [evR v (l.getD k default)]:=by
 rw[Z09 (by rw[Z3c];exact h),Z1y v l k h]
theorem Zx2{v:Val}(h:valE v=0)(hk:v.kind=0):v=noVal:=by
 obtain⟨k,n,s⟩:=v;simp only at hk;subst hk;unfold valE at h;dsimp only at h;rw[if_neg (by omega)]at h
 by_cases h1:n=0
 ·have h2:s=⟨#[]⟩:=by
   by_cases h3:s=⟨#[]⟩
   ·exact h3
   exfalso
   split at h
   ·cases h
   split at h
   ·cases h
   rw[qK ⟨h3,by omega⟩]at h;cases h
  subst h1;subst h2;rfl
 exfalso;rw[qK (by left;exact⟨.inl rfl,h1⟩)]at h;cases h
end Go.Abs
namespace Go.Abs
theorem Z62{l k:List ByteArray}(h:∀x,x∈l↔x∈k):sortS l=sortS k:=Z43 (Z39 l) (Z39 k) fun x=>by rw[mem_sortS,mem_sortS,h]
theorem Z9y{m:List ByteArray}{x:ByteArray}{j:Nat}(h:j<=m.length):(insM m x j).length=m.length+1:=by
 unfold insM;rw[ql,qq,qy,List.length_drop];omega
theorem Zf6{m:List ByteArray}{x:ByteArray}{j i:Nat}(h:j<=m.length):(insM m x j).getD i default=if i<j then m.getD i default else if i=j then x else m.getD (i-1) default:=by
 unfold insM
 by_cases h1:i<j
 ·rw[qK h1];have h2:i<(m.take j).length:=by rw[qq];omega
  simp[List.getD,qr h2,qm,h1]
 rw[qJ h1];have h2:(m.take j).length<=i:=by rw[qq];omega
 have h3:(m.take j).length=j:=by rw[qq];omega
 by_cases h4:i=j
 ·rw[qK h4];subst h4;simp[List.getD,qv h2,h3]
 rw[qJ h4];simp only[List.getD,qv h2,h3];obtain⟨d,rfl⟩:∃d,i=j+(d+1):=⟨i-j-1,by omega⟩;rw[show j+(d+1)-j=d+1 by omega,List.getElem?_cons_succ,qA,show j+(d+1)-1=j+d by omega]
theorem Zuh{l:List ByteArray}{x:ByteArray}(h:x∈l):sortS (l ++ [x])=sortS l:=Z62 fun y=>by
 rw[qo,List.mem_singleton];exact⟨fun h2=>h2.elim id (fun e=>e▸h),.inl⟩
theorem Zeu{l:List ByteArray}{k:Nat}(hk:k<l.length):idxOf l (l.getD k default)<(k:Int)↔l.getD k default∈l.take k:=by
 rw[Z5h hk];simp only[memN,List.any_eq_true,List.mem_range,Q0];constructor
 ·rintro ⟨j,hj,e⟩
  rw[<-e];have hj2:j<(l.take k).length:=by rw[qq];omega
  have:l.getD j default=(l.take k)[j]:=by simp[List.getD,show j<l.length by omega]
  rw[this];exact qE hj2
 intro h;obtain⟨j,hj,e⟩:=qp h;rw[qq]at hj;refine⟨j,by omega,?_⟩;rw[<-e];simp[List.getD,show j<l.length by omega]
open Go.Proofs
set_option maxRecDepth 10000
theorem Zkg(n lo hi:Int):AC Tryz.prog 231 [.pv (vint n),.pv (vint lo),.pv (vint hi)] [] (.pv (vint (clampI n lo hi))) []:=by
 refine AC.of_awp (T:=T) T_ok hm Tryz.call231 Tryz.func231 rfl rfl rfl ?_
 conv=>whnf
 repeat(any_goals((first|refine⟨QT ?_,QF ?_⟩<;>intro h<;>(try simp only[Q0,Q1,Q2,Q3,Q4,Q5,Q6,Q7,Q8,reduceCtorEq]at h))<;>conv=>whnf))
 all_goals first
  |contradiction
  |(exfalso;omega)
  |exact PSub.rfl
  |(refine PSub.lit_sb ?_;(first|(simp[clampI, *];done)|(simp_all[clampI];done)|((try simp only[clampI]);(repeat' split)<;>(try simp only[qh,qj,qd,Q1,qc,Q0,Q6])<;>first|rfl|omega|(simp_all;done)|(simp_all;omega))))
  |(refine PSub.sb ?_;(first|(simp[clampI, *];done)|(simp_all[clampI];done)|((try simp only[clampI]);(repeat' split)<;>(try simp only[qh,qj,qd,Q1,qc,Q0,Q6])<;>first|rfl|omega|(simp_all;done)|(simp_all;omega))))
  |(refine PSub.sb_lit ?_;(first|(simp[clampI, *];done)|(simp_all[clampI];done)|((try simp only[clampI]);(repeat' split)<;>(try simp only[qh,qj,qd,Q1,qc,Q0,Q6])<;>first|rfl|omega|(simp_all;done)|(simp_all;omega))))
  |(refine PSub.int ?_;(first|(simp[clampI, *];done)|(simp_all[clampI];done)|((try simp only[clampI]);(repeat' split)<;>(try simp only[qh,qj,qd,Q1,qc,Q0,Q6])<;>first|rfl|omega|(simp_all;done)|(simp_all;omega))))
  |skip
theorem Zc2(m:Int):AC Tryz.prog 177 [.pv (vint m)] [] (.pv (vint (clampI m 0 1073741824))) []:=by
 refine AC.of_awp (T:=T) T_ok hm Tryz.call177 Tryz.func177 rfl rfl rfl ?_
 conv=>whnf
 repeat(any_goals((first|refine .inl ⟨_,Zkg m 0 1073741824,?_⟩)<;>conv=>whnf))
 all_goals exact PSub.rfl
theorem Zc0(m:Int):AC Tryz.prog 110 [.pv (vint m)] [] (.pv (vint (ofDay m))) []:=by
 refine AC.of_awp (T:=T) T_ok hm Tryz.call110 Tryz.func110 rfl rfl rfl ?_
 conv=>whnf
 repeat(any_goals((first|refine .inl ⟨_,Zc2 m,?_⟩|refine QI ?_)<;>conv=>whnf))
 all_goals exact PSub.rfl
theorem Zc1(m:Int):AC Tryz.prog 111 [.pv (vint m)] [] (.pv (vint (weekday m))) []:=by
 have hc:=Z99 m;have hd:=Zbe hc;refine AC.of_awp (T:=T) T_ok hm Tryz.call111 Tryz.func111 rfl rfl rfl ?_
 conv=>whnf
 repeat(any_goals((first|refine .inl ⟨_,Zc2 m,?_⟩|refine QI ?_|refine .inl ⟨wrap64 (by omega),?_⟩)<;>conv=>whnf))
 all_goals exact PSub.rfl
theorem Zhm{n:Int}(h:smallV n):satI n=n:=by
 obtain⟨h1,h2⟩:=h;unfold satI;(repeat' split)<;>omega
theorem Z6c(n:Int):AC Tryz.prog 260 [.pv (vint n)] [] (.pv (vint (satI n))) []:=by
 refine AC.of_awp (T:=T) T_ok hm Tryz.call260 Tryz.func260 rfl rfl rfl ?_
 conv=>whnf
 repeat(any_goals((first|refine⟨QT ?_,QF ?_⟩<;>intro h<;>(try simp only[Q0,Q1,Q2,Q3,Q4,Q5,Q6,Q7,Q8,reduceCtorEq]at h))<;>conv=>whnf))
 all_goals first
  |contradiction
  |(exfalso;omega)
  |exact PSub.rfl
  |(refine PSub.lit_sb ?_;(first|(simp[satI, *];done)|(simp_all[satI];done)|((try simp only[satI]);(repeat' split)<;>(try simp only[qh,qj,qd,Q1,qc,Q0,Q6])<;>first|rfl|omega|(simp_all;done)|(simp_all;omega))))
  |(refine PSub.sb ?_;(first|(simp[satI, *];done)|(simp_all[satI];done)|((try simp only[satI]);(repeat' split)<;>(try simp only[qh,qj,qd,Q1,qc,Q0,Q6])<;>first|rfl|omega|(simp_all;done)|(simp_all;omega))))
  |(refine PSub.sb_lit ?_;(first|(simp[satI, *];done)|(simp_all[satI];done)|((try simp only[satI]);(repeat' split)<;>(try simp only[qh,qj,qd,Q1,qc,Q0,Q6])<;>first|rfl|omega|(simp_all;done)|(simp_all;omega))))
  |(refine PSub.int ?_;(first|(simp[satI, *];done)|(simp_all[satI];done)|((try simp only[satI]);(repeat' split)<;>(try simp only[qh,qj,qd,Q1,qc,Q0,Q6])<;>first|rfl|omega|(simp_all;done)|(simp_all;omega))))
  |skip
theorem Zkf(a b:Int)(ha:smallV a)(hb:smallV b):AC Tryz.prog 233 [.pv (vint a),.pv (vint b)] [] (.pv (vint (satI (a+b)))) []:=by
 obtain⟨h1,h2⟩:=ha;obtain⟨h3,h4⟩:=hb;refine AC.of_awp (T:=T) T_ok hm Tryz.call233 Tryz.func233 rfl rfl rfl ?_
 conv=>whnf
 repeat(any_goals((first|refine⟨QT ?_,QF ?_⟩<;>intro h<;>(try simp only[Q0,Q1,Q2,Q3,Q4,Q5,Q6,Q7,Q8,reduceCtorEq]at h)|refine .inl ⟨_,Z6c (a+b),?_⟩|refine .inl ⟨wrap64 (by omega),?_⟩)<;>conv=>whnf))
 all_goals first|exact PSub.rfl|(exfalso;omega)
theorem Zki(a b:Int)(ha:smallV a)(hb:smallV b):AC Tryz.prog 234 [.pv (vint a),.pv (vint b)] [] (.pv (vint (satI (a-b)))) []:=by
 obtain⟨h1,h2⟩:=ha;obtain⟨h3,h4⟩:=hb;refine AC.of_awp (T:=T) T_ok hm Tryz.call234 Tryz.func234 rfl rfl rfl ?_
 conv=>whnf
 repeat(any_goals((first|refine⟨QT ?_,QF ?_⟩<;>intro h<;>(try simp only[Q0,Q1,Q2,Q3,Q4,Q5,Q6,Q7,Q8,reduceCtorEq]at h)|refine .inl ⟨_,Z6c (a-b),?_⟩|refine .inl ⟨wrap64 (by omega),?_⟩)<;>conv=>whnf))
 all_goals first|exact PSub.rfl|(exfalso;omega)
theorem Zby(a:Int)(ha:smallV a):AC Tryz.prog 261 [.pv (vint a)] [] (.pv (vint (sizeU a))) []:=by
 obtain⟨h1,h2⟩:=ha;have e0:IntKind.i64.wrap (0-a)=0-a:=wrap64 (by omega);refine AC.of_awp (T:=T) T_ok hm Tryz.call261 Tryz.func261 rfl rfl rfl ?_
 conv=>whnf
 repeat(any_goals((first|refine⟨QT ?_,QF ?_⟩<;>intro h<;>(try simp only[Q0,Q1,Q2,Q3,Q4,Q5,Q6,Q7,Q8,reduceCtorEq]at h))<;>conv=>whnf))
 ·rw[e0];refine PSub.int ?_;unfold sizeU;rw[qK h];omega
 refine PSub.int ?_;unfold sizeU;rw[qJ h]
theorem Z1u(b:Bool):AC Tryz.prog 65 [.pv (vbool b)] [] (.pv (.agg (cVal (truV b)))) []:=by
 refine AC.of_awp (T:=T) T_ok hm Tryz.call65 Tryz.func65 rfl rfl rfl ?_
 conv=>whnf
 repeat(any_goals((first|refine⟨QT ?_,QF ?_⟩<;>intro h<;>(try simp only[Q0,Q1,Q2,Q3,Q4,Q5,Q6,Q7,Q8,reduceCtorEq]at h))<;>conv=>whnf))
 ·subst h
  all_goals exact QE
 subst h
 all_goals exact QE
theorem Zlh(t a b:Int):AC Tryz.prog 180 [.pv (vint t),.pv (vint a),.pv (vint b)] [] (.pv (vbool (within t a b))) []:=by
 refine AC.of_awp (T:=T) T_ok hm Tryz.call180 Tryz.func180 rfl rfl rfl ?_
 conv=>whnf
 repeat(any_goals((first|refine⟨QT ?_,QF ?_⟩<;>intro h<;>(try simp only[Q0,Q1,Q2,Q3,Q4,Q5,Q6,Q7,Q8,reduceCtorEq]at h))<;>conv=>whnf))
 all_goals first
  |contradiction
  |(exfalso;omega)
  |exact PSub.rfl
  |(refine PSub.lit_sb ?_;(first|(simp[within, *];done)|(simp_all[within];done)|((try simp only[within]);(repeat' split)<;>(try simp only[qh,qj,qd,Q1,qc,Q0,Q6])<;>first|rfl|omega|(simp_all;done)|(simp_all;omega))))
  |(refine PSub.sb ?_;(first|(simp[within, *];done)|(simp_all[within];done)|((try simp only[within]);(repeat' split)<;>(try simp only[qh,qj,qd,Q1,qc,Q0,Q6])<;>first|rfl|omega|(simp_all;done)|(simp_all;omega))))
  |(refine PSub.sb_lit ?_;(first|(simp[within, *];done)|(simp_all[within];done)|((try simp only[within]);(repeat' split)<;>(try simp only[qh,qj,qd,Q1,qc,Q0,Q6])<;>first|rfl|omega|(simp_all;done)|(simp_all;omega))))
  |(refine PSub.int ?_;(first|(simp[within, *];done)|(simp_all[within];done)|((try simp only[within]);(repeat' split)<;>(try simp only[qh,qj,qd,Q1,qc,Q0,Q6])<;>first|rfl|omega|(simp_all;done)|(simp_all;omega))))
  |skip
theorem Z51(l:List ByteArray)(hl:l.length<=1048576):AC Tryz.prog 37 [.pv (roL 1 cstr l)] [] (.pv (roL 1 cstr (sortS l))) []:=by
 refine AC.of_awp (T:=T) T_ok hm Tryz.call37 Tryz.func37 rfl rfl rfl ?_
 conv=>whnf
 refine loop_k (ι:=Nat) [0] [] (fun k=>k<=l.length∧True) (fun k=>l.length-k) 0 (fun k=>[(3,.own 500),(4,.pv (vint k))]) (fun k=>[(500,rowL 1 cstr (sortS (l.take k)))]) [] ⟨qe _,trivial⟩ ?_ (fun k hk=>?_)
 ·(repeat'(first|exact QC|refine qa ?_ ?_));all_goals((intro i hi;exact absurd hi (by simp[sortS])))
 obtain⟨hkn,hinv⟩:=hk
 conv=>whnf
 have hlen:=Z32 (l.take k);rw[qq]at hlen
 repeat(any_goals((first|refine⟨QT ?_,QF ?_⟩<;>intro h<;>(try simp only[Q0,Q1,Q2,Q3,Q4,Q5,Q6,Q7,Q8,reduceCtorEq]at h)|refine .inl ⟨_,Z1a l (l.getD k default) hl,?_⟩|refine QI ?_|refine .inl ⟨wrap64 (by omega),?_⟩)<;>conv=>whnf))
 ·have hk:k<l.length:=by omega
  have hin:=(Zeu hk).1 h;refine⟨k+1,[],⟨by omega,trivial⟩,by omega,?_⟩;rw[Z09 hk,Zuh hin];(repeat'(first|exact QC|refine qa ?_ ?_));intro i hi;exact PSubs.rfl
 ·have hk:k<l.length:=by omega
  have hin:¬l.getD k default∈l.take k:=fun h2=>h ((Zeu hk).2 h2)
  have hx:l.getD k default∉sortS (l.take k):=fun h2=>hin (mem_sortS.1 h2)
  have hA:=Z39 (l.take k);have hS:=Zi2 (l.take k) (l.getD k default);rw[<-Z09 hk]at hS;obtain⟨x,hxdef⟩:∃x,x=l.getD k default:=⟨_,rfl⟩;rw[<-hxdef]at hin hx hS;generalize sortS (l.take k)=m at *;refine loop_k (ι:=Nat) [0,4] [] (fun j=>j<=m.length∧∀i,j<=i->i<m.length->sLt x (m.getD i default)=true) (fun j=>j) m.length (fun j=>[(3,.own 501),(5,.pv (vint j))]) (fun j=>[(501,rowL 1 cstr (insM m x j))]) [(501,27)] ⟨qL _,fun i h1 h2=>absurd h2 (by omega)⟩ ?_ (fun j hj=>?_)
  ·have hi:=Z9y (x:=x) (qL m.length);have he:insM m x m.length=m ++ [x]:=by simp[insM]
   rw[he];(repeat'(first|exact QC|refine qa ?_ ?_))
   ·simp
   ·refine Z05 (fun i hi=>by simp only[qK hi];exact PSubs.rfl) (by simp only[qJ (qM _),Nat.sub_self];rw[hxdef];exact PSubs.rfl)
   exact PSub.int (by omega)
  obtain⟨hjn,hinv⟩:=hj;have hil:=Z9y (x:=x) hjn;have hg:∀i,(insM m x j).getD i default=if i<j then m.getD i default else if i=j then x else m.getD (i-1) default:=fun i=>Zf6 hjn
  have hxj:(insM m x j).getD j default=x:=by rw[hg,qJ (by omega),qK rfl]
  have hj1:((j:Int)-1).toNat=j-1:=by omega
  have hmj:0<j->(insM m x j).getD (j-1) default=m.getD (j-1) default:=fun h=>by rw[hg,qK (by omega)]
  conv=>whnf
  repeat(any_goals((first|refine⟨QT ?_,QF ?_⟩<;>intro h<;>(try simp only[Q0,Q1,Q2,Q3,Q4,Q5,Q6,Q7,Q8,reduceCtorEq]at h)|refine QI ?_|refine QK ?_|refine .inl ⟨wrap64 (by omega),?_⟩)<;>conv=>whnf))
  ·have hpos:0<j:=by omega
   rw[hj1,hxj,hmj hpos]at h;refine⟨j-1,[],⟨by omega,fun i h1 h2=>?_⟩,by omega,?_⟩
   ·by_cases e:i=j-1
    ·subst e;exact h
    exact hinv i (by omega) h2
   have hil2:=Z9y (x:=x) (show j-1<=m.length by omega);have hg2:∀i,(insM m x (j-1)).getD i default=if i<j-1 then m.getD i default else if i=j-1 then x else m.getD (i-1) default:=fun i=>Zf6 (by omega)
   (repeat'(first|exact QC|refine qa ?_ ?_))
   ·rw[hil2,hil]
   ·intro i hi;simp only[Q4,hj1]
    by_cases e1:i=j-1
    ·subst e1;rw[Z19,Z11 (by omega),hg2,qJ (by omega),qK rfl];exact⟨PSub.str hxj,trivial⟩
    rw[Z11 e1]
    by_cases e2:i=j
    ·subst e2;rw[Z19,hg2,qJ (by omega),qJ (by omega)];exact⟨PSub.str (hmj hpos),trivial⟩
    rw[Z11 e2,hg2];refine⟨PSub.str ?_,trivial⟩;rw[hg]
    by_cases e3:i<j
    ·rw[qK e3,qK (by omega)]
    rw[qJ e3,qJ e2,qJ (by omega),qJ (by omega)]
   exact PSub.int (by omega)
  ·have hpos:0<j:=by omega
   rw[hj1,hxj,hmj hpos]at h;refine⟨k+1,[(500,501)],⟨by omega,trivial⟩,by omega,?_⟩;rw[hS,<-Z9z hA hx hjn hinv (.inr h)];(repeat'(first|exact QC|refine qa ?_ ?_));intro i hi;exact PSubs.rfl
  have hz:j=0:=by omega
  refine⟨k+1,[(500,501)],⟨by omega,trivial⟩,by omega,?_⟩;rw[hS,<-Z9z hA hx hjn hinv (.inl hz)];(repeat'(first|exact QC|refine qa ?_ ?_));intro i hi;exact PSubs.rfl
 rw[List.take_of_length_le (by omega)];exact .rfl
theorem Zlp(l:List Scene)(s:ByteArray)(hl:smallL l):AC Tryz.prog 119 [.pv (roL 2 cSce l),.pv (vstr s)] [] (.pv (.tup [.agg (cSce (findS l s)),vbool (decide (sceAt l s<l.length))])) []:=by
 have hl':l.length<=1048576:=hl;refine AC.of_awp (T:=T) T_ok hm Tryz.call119 Tryz.func119 rfl rfl rfl ?_
 conv=>whnf
 refine loop_k (ι:=Nat) [0,1,4,8] [4] (fun k=>k<=l.length∧(∀j,j<k->decide ((l.getD j default).name=s)=false)) (fun k=>l.length-k) 0 (fun k=>[(9,.pv (vint k))]) (fun _=>[]) [] ⟨qe _,fun j h=>absurd h (by omega)⟩ ?_ (fun k hk=>?_)
 ·exact QD
 obtain⟨hkn,hinv⟩:=hk
 conv=>whnf
 repeat(any_goals((first|refine⟨QT ?_,QF ?_⟩<;>intro h<;>(try simp only[Q0,Q1,Q2,Q3,Q4,Q5,Q6,Q7,Q8,reduceCtorEq]at h)|refine QI ?_|refine .inl ⟨wrap64 (by omega),?_⟩)<;>conv=>whnf))
 ·have e:sceAt l s=k:=Z0u (by omega) (by simpa[-List.getD_eq_getElem?_getD]using h) hinv;rw[findS,e,qK (by omega)];refine⟨?_,?_⟩<;>(conv=>whnf)
  ·exact .rfl
  exact PSub.lit_sb (by simp;omega)
 ·refine⟨k+1,[],⟨by omega,?_⟩,by first|omega|(dsimp only;omega),?_⟩;rotate_left
  ·exact QD
  intro j hj
  by_cases ej:j=k
  ·subst ej;simpa[-List.getD_eq_getElem?_getD]using h
  exact hinv j (by omega)
 have e:sceAt l s=l.length:=Z0z fun j hj=>hinv j (by omega)
 rw[findS,e,qJ (by omega)];refine⟨?_,?_⟩<;>(conv=>whnf)
 ·exact PSub.agg ⟨.rfl,PSub.nil_ro _ _,trivial⟩
 exact PSub.lit_sb (by simp)
theorem Zle(v:Vw)(q:Key)(hv:smallV2 v):AC Tryz.prog 179 [.pv (.agg (cVw v)),.pv (.agg (cKey q))] [] (.pv (.agg (cVal (atV v.items q)))) []:=by
 have hl:v.items.length<=1048576:=hv.1;refine AC.of_awp (T:=T) T_ok hm Tryz.call179 Tryz.func179 rfl rfl rfl ?_
 conv=>whnf
 refine loop_k (ι:=Nat) [2,3,4] [2,3,4] (fun k=>k<=v.items.length∧(∀j,j<k->(v.items.getD j default).key≠q)) (fun k=>v.items.length-k) 0 (fun k=>[(5,.pv (vint k))]) (fun _=>[]) [] ⟨qe _,fun j h=>absurd h (by omega)⟩ ?_ (fun k hk=>?_)
 ·exact QD
 obtain⟨hkn,hinv⟩:=hk
 conv=>whnf
 refine⟨fun h=>?_,fun h=>?_⟩<;>(try simp only[Q0,Q1,Q2,Q3,Q4,Q5,Q6,Q7,Q8,reduceCtorEq]at h)<;>(conv=>whnf)
 ·have hk:k<v.items.length:=by omega
  repeat(any_goals((first|refine⟨QT ?_,QF ?_⟩<;>intro h<;>(try simp only[Q0,Q1,Q2,Q3,Q4,Q5,Q6,Q7,Q8,reduceCtorEq]at h)|refine .inl ⟨_,Z89 (v.items.getD k default).value,?_⟩|refine QI ?_|refine QK ?_|refine .inl ⟨wrap64 (by omega),?_⟩)<;>conv=>whnf))
  ·rename_i h1;have e1:=qC ((key_eq _ _).symm.trans h1);have e2:atV v.items q=noVal:=by
    rw[atV_at hk e1 hinv];exact qK h
   rw[e2]
   all_goals exact QE
  ·rename_i h1;have e1:=qC ((key_eq _ _).symm.trans h1);have e2:atV v.items q=(v.items.getD k default).value:=by
    rw[atV_at hk e1 hinv];exact qJ (fun x=>x h)
   rw[e2]
   all_goals exact QE
  have e1:=of_decide_eq_false ((key_eq _ _).symm.trans h);refine⟨k+1,[],⟨by omega,?_⟩,by first|omega|(dsimp only;omega),?_⟩;rotate_left
  ·exact QD
  intro j hj
  by_cases e:j=k
  ·subst e;exact e1
  exact hinv j (by omega)
 have e2:atV v.items q=noVal:=by
  unfold atV;rw[Ze7 fun j hj=>hinv j (by omega)]
 rw[e2]
 all_goals exact QE
theorem Zlf (v : Vw) (r : Int) (hv : smallV2 v) : AC Tryz.prog 181 [.pv (.agg (cVw v)), .pv (vint r)] [] (.pv (vbool (homeB v.members r))) [] := by
  have hl2 : v.members.length ≤ 1048576 := hv.2
  refine AC.of_awp (T := T) T_ok hm Tryz.call181 Tryz.func181 rfl rfl rfl ?_
  conv => whnf
  refine loop_k (ι := Nat) [1, 2] [2] (fun k => k ≤ v.members.length ∧ (∀ j, j < k → isHome (v.members.getD j default) r = false)) (fun k => v.members.length - k) 0 (fun k => [(5, .pv (vint k))]) (fun _ => []) [] ⟨Nat.zero_le _, fun j h => absurd h (by omega)⟩ ?_ (fun k hk => ?_)
  · (repeat'(first | exact PSub.rfl | exact rfl | exact PSubs.rfl | exact trivial | exact PSub.lit_sb rfl | refine And.intro ?_ ?_))
  obtain ⟨hkn, hinv⟩ := hk
  conv => whnf
  refine ⟨fun h => ?_, fun h => ?_⟩ <;> (try simp only [Q0,Q1,Q2,Q3,Q4,Q5,Q6,Q7,Q8,reduceCtorEq] at h) <;> (conv => whnf)
  · have hk : k < v.members.length := by omega
    repeat(any_goals(first
      | (refine ⟨fun (h : (_ : Bool) = true) => ?_, fun (h : (_ : Bool) = false) => ?_⟩ <;> (try simp only [Q0,Q1,Q2,Q3,Q4,Q5,Q6,Q7,Q8,reduceCtorEq] at h) <;> (conv => whnf))
      | (refine And.intro (by (try simp only [Int.toNat_natCast]); omega) ?_; conv => whnf)
      | (refine .inl ⟨wrap64 (by omega), ?_⟩; conv => whnf)))
    all_goals first
      | exact PSub.lit_sb (Zcx hk (by unfold isHome; simp_all)).symm
      | skip
    all_goals (refine ⟨k + 1, [], ⟨by omega, fun j hj => ?_⟩, by omega, ?_⟩)
    all_goals first
      | (by_cases e : j = k; · subst e; unfold isHome; simp_all
         exact hinv j (by omega))
      | skip
    all_goals (repeat'(first | exact PSub.rfl | exact rfl | exact PSubs.rfl | exact trivial | refine And.intro ?_ ?_))
  · exact PSub.lit_sb (Zcy fun j hj => hinv j (by omega)).symm
theorem Zcg(l:List Val)(d:Bool)(hl:smallL l):AC Tryz.prog 182 [.pv (roL 3 cVal l),.pv (vbool d)] [] (.pv (.agg (cVal (chainV l d)))) []:=by
 have hl2:l.length<=1048576:=hl;refine AC.of_awp (T:=T) T_ok hm Tryz.call182 Tryz.func182 rfl rfl rfl ?_
 conv=>whnf
 refine loop_k (ι:=Nat) [0,1,4] [4] (fun k=>k<=l.length∧(∀j,j<k->l.getD j default≠truV d)) (fun k=>l.length-k) 0 (fun k=>[(5,.pv (vbool ((l.take k).all fun x=>decide (x.kind=1)))),(6,.pv (vint k))]) (fun k=>[]) [] ⟨qe _,fun j h=>absurd h (by omega)⟩ ?_ (fun k hk=>?_)
 ·(repeat'(first|exact QC|refine qa ?_ ?_));all_goals(exact PSub.lit_sb rfl)
 obtain⟨hkn,hinv⟩:=hk
 conv=>whnf
 have hno:(∀j,j<l.length->l.getD j default≠truV d)->chainV l d=if(l.all fun x=>decide (x.kind=1))=true then truV (!d)else noVal:=fun hf=>by
  unfold chainV;rw[qJ];rw[Bool.not_eq_true,List.any_eq_false];intro x hx;obtain⟨j,hj,rfl⟩:=qp hx;have:=hf j hj;rw[Z03 _ _ hj]at this;simpa using this
 repeat(any_goals((first|refine⟨QT ?_,QF ?_⟩<;>intro h<;>(try simp only[Q0,Q1,Q2,Q3,Q4,Q5,Q6,Q7,Q8,reduceCtorEq]at h)|refine .inl ⟨_,Z1u d,?_⟩|refine .inl ⟨_,Z1u (!d),?_⟩|refine QI ?_|refine QK ?_|refine .inl ⟨wrap64 (by omega),?_⟩)<;>conv=>whnf))
 ·have hk:k<l.length:=by omega
  have e1:=qC ((val_eq _ _).symm.trans h);have e2:chainV l d=l.getD k default:=by
   unfold chainV;rw[qK,e1];rw[List.any_eq_true];exact⟨l[k],qE hk,qB (by rw[<-e1,Z03 _ _ hk])⟩
  rw[e2]
  all_goals exact QE
 ·rename_i h1;have hk:k<l.length:=by omega
  have e1:=of_decide_eq_false ((val_eq _ _).symm.trans h1);refine⟨k+1,[],⟨by omega,fun j hj=>?_⟩,by omega,?_⟩
  ·by_cases e:j=k
   ·subst e;exact e1
   exact hinv j (by omega)
  rw[Z09 hk,List.all_append];(repeat'(first|exact QC|refine qa ?_ ?_));exact PSub.lit_sb (by simp[h,-List.getD_eq_getElem?_getD])
 ·rename_i h1;have hk:k<l.length:=by omega
  have e1:=of_decide_eq_false ((val_eq _ _).symm.trans h1);refine⟨k+1,[],⟨by omega,fun j hj=>?_⟩,by omega,?_⟩
  ·by_cases e:j=k
   ·subst e;exact e1
   exact hinv j (by omega)
  rw[Z09 hk,List.all_append];(repeat'(first|exact QC|refine qa ?_ ?_));exact PSub.sb (by simp[h,-List.getD_eq_getElem?_getD])
 ·rw[List.take_of_length_le (by omega)]at h;rw[hno fun j hj=>hinv j (by omega),qJ (by rw[h];decide)]
  all_goals exact QE
 rw[List.take_of_length_le (by omega)]at h;rw[hno fun j hj=>hinv j (by omega),qK h]
 all_goals exact QE
theorem PSub.ofV{x:PV}{e e':Val}(h:e=e')(k:PSub x (.agg (cVal e))):PSub x (.agg (cVal e')):=h▸k
theorem neg_of{a b:Int}(h:¬(a<0↔b<0)):(!(decide (a<0) == decide (b<0)))=true:=by
 rw[Q2,Q7];exact fun e=>h (Q6.1 e)
theorem pos_of{a b:Int}(h:a<0↔b<0):(!(decide (a<0) == decide (b<0)))=false:=by
 rw[Q3,Q5];exact Q6.2 h
theorem Zg7{a b:Int}(h:a=0∨b=0):mulI a b=0:=by
 have hs:∀c:Bool,signI 0 c=0:=fun c=>by unfold signI;rw[qJ (by omega)];cases c<;>rfl
 have hn:∀y:Int,0<=y->¬(1099511627776:Int).tdiv y<0:=fun y hy=>by
  rw[Int.tdiv_eq_ediv_of_nonneg (by omega)];have:=Int.ediv_nonneg (show(0:Int)<=1099511627776 by omega) hy;omega
 have hp:0<=sizeU b:=by unfold sizeU;split<;>omega
 unfold mulI;rcases h with h|h
 ·subst h;rw[show sizeU 0=0 from rfl];unfold timesU;rw[qJ (fun x=>hn _ hp x.2),Int.zero_mul,hs]
 subst h;rw[show sizeU 0=0 from rfl];unfold timesU;rw[qJ (fun x=>x.1 rfl),Int.mul_zero,hs]
theorem Zb4{a:Int}(h:a≠0):sizeU a≠0:=by unfold sizeU;split<;>omega
theorem Zg8{x y:Int}(hx:0<=x)(hy:0<y)(h:¬(1099511627776:Int).tdiv y<x):0<=x*y∧x*y<=1099511627776:=by
 refine⟨Int.mul_nonneg hx (by omega),?_⟩;rw[Int.tdiv_eq_ediv_of_nonneg (by omega)]at h;exact(Int.le_ediv_iff_mul_le hy).1 (by omega)
theorem Zrq{a b:Int}(hb:b≠0)(h:(1099511627776:Int).tdiv (sizeU b)<sizeU a):mulI a b=if(!(decide (a<0) == decide (b<0)))=true then -1099511627776 else 1099511627776:=by
 unfold mulI timesU;rw[qK ⟨Zb4 hb,h⟩];unfold signI;rw[qK (by omega)]
theorem Zrs{a b:Int}(ha:smallV a)(hb:smallV b)(hb0:b≠0)(h:¬(1099511627776:Int).tdiv (sizeU b)<sizeU a):mulI a b=if(!(decide (a<0) == decide (b<0)))=true then -(sizeU a*sizeU b)else sizeU a*sizeU b:=by
 have h1:=Z4t ha;have h2:=Z4t hb;have h3:=Zb4 hb0;have h4:=Zg8 h1.1 (by omega) h;unfold mulI timesU;rw[qJ (fun x=>h x.2)];unfold signI;rw[qJ (by omega)]
theorem Zkh(a b:Int)(ha:smallV a)(hb:smallV b):AC Tryz.prog 235 [.pv (vint a),.pv (vint b)] [] (.pv (vint (mulI a b))) []:=by
 have h1:=Z4t ha;have h2:=Z4t hb;have hq:0<=(1099511627776:Int).tdiv (sizeU b)∧(1099511627776:Int).tdiv (sizeU b)<=1099511627776:=by
  rw[Int.tdiv_eq_ediv_of_nonneg (by omega)];exact⟨Int.ediv_nonneg (by omega) h2.1,Int.ediv_le_self _ (by omega)⟩
 have hnb:b≠0->sizeU b≠0:=Zb4;have hbig:=@Zrq a b;have hok:=Zrs ha hb;have hng:=@neg_of a b;have hps:=@pos_of a b;have hsm:b≠0->¬(1099511627776:Int).tdiv (sizeU b)<sizeU a->0<=sizeU a*sizeU b∧sizeU a*sizeU b<=1099511627776:=fun hb0 h=>Zg8 h1.1 (by have:=hnb hb0;omega) h
 have ea:=Zhm ha;have eb:=Zhm hb;have ca:=Z6c a;have cb:=Z6c b;rw[ea]at ca;rw[eb]at cb;have l1:=ha.1;have l2:=ha.2;have l3:=hb.1;have l4:=hb.2;clear ea eb;refine AC.of_awp (T:=T) T_ok hm Tryz.call235 Tryz.func235 rfl rfl rfl ?_
 conv=>whnf
 repeat(any_goals((first|refine⟨QT ?_,QF ?_⟩<;>intro h<;>(try simp only[Q0,Q1,Q2,Q3,Q4,Q5,Q6,Q7,Q8,reduceCtorEq]at h)|refine .inl ⟨_,ca,?_⟩|refine .inl ⟨_,cb,?_⟩|refine .inl ⟨_,Zby a ha,?_⟩|refine .inl ⟨_,Zby b hb,?_⟩|refine QI ?_|refine .inl ⟨wrap64 (by omega),?_⟩)<;>conv=>whnf))
 all_goals first
  |(exfalso;omega)
  |exact PSub.int (Zg7 (.inl (by assumption))).symm
  |exact PSub.int (Zg7 (.inr (by assumption))).symm
  |skip
 ·rename_i g1 g2 g3 g4 g5 g6 g7;exact PSub.int (by rw[hbig g2 g7,qK (hng h)])
 ·rename_i g1 g2 g3 g4 g5 g6 g7;exact PSub.int (by rw[hbig g2 g7,qJ (by rw[hps h];decide)])
 ·rename_i g1 g2 g3 g4 g5 g6 g7;have h5:=hsm g2 g7;have h6:IntKind.i64.wrap (0-sizeU a)=0-sizeU a:=wrap64 (by omega);rw[h6,Int.sub_mul,Int.zero_mul];refine .inl ⟨wrap64 (by omega),?_⟩
  conv=>whnf
  exact PSub.int (by rw[hok g2 g7,qK (hng h)];omega)
 rename_i g1 g2 g3 g4 g5 g6 g7;exact PSub.int (by rw[hok g2 g7,qJ (by rw[hps h];decide)])
theorem Zlg(k:Int)(a b:Val)(ha:valE a=0)(hb:valE b=0):AC Tryz.prog 183 [.pv (vint k),.pv (.agg (cVal a)),.pv (.agg (cVal b))] [] (.pv (.agg (cVal (intV k a b)))) []:=by
 have hint:¬(a.kind≠2∨b.kind≠2)->smallV a.n∧smallV b.n:=fun h=>⟨Z7s ha (by omega),Z7s hb (by omega)⟩
 refine AC.of_awp (T:=T) T_ok hm Tryz.call183 Tryz.func183 rfl rfl rfl ?_
 conv=>whnf
 repeat(any_goals((first|refine⟨QT ?_,QF ?_⟩<;>intro h<;>(try simp only[Q0,Q1,Q2,Q3,Q4,Q5,Q6,Q7,Q8,reduceCtorEq]at h)|refine .inl ⟨_,Z1u (decide (a.n<b.n)),?_⟩|refine .inl ⟨_,Zkf a.n b.n (hint (by omega)).1 (hint (by omega)).2,?_⟩|refine .inl ⟨_,Zki a.n b.n (hint (by omega)).1 (hint (by omega)).2,?_⟩|refine .inl ⟨_,Zkh a.n b.n (hint (by omega)).1 (hint (by omega)).2,?_⟩)<;>conv=>whnf))
 ·refine PSub.ofV (e:=noVal) (by unfold intV;rw[qK (.inl h)]) ?_
  all_goals exact QE
 ·refine PSub.ofV (e:=noVal) (by unfold intV;rw[qK (.inr h)]) ?_
  all_goals exact QE
 ·rename_i h1 h2;refine PSub.ofV (e:=truV (decide (a.n<b.n))) (by unfold intV;rw[qJ (by omega),qK h]) ?_
  all_goals exact QE
 ·rename_i h1 h2 h3;refine PSub.ofV (e:=⟨2,satI (a.n+b.n),⟨#[]⟩⟩) (by unfold intV;rw[qJ (by omega),qJ h3];unfold binN;rw[qK h]) ?_
  all_goals exact QE
 ·rename_i h1 h2 h3 h4;refine PSub.ofV (e:=⟨2,satI (a.n-b.n),⟨#[]⟩⟩) (by unfold intV;rw[qJ (by omega),qJ h3];unfold binN;rw[qJ h4,qK h]) ?_
  all_goals exact QE
 rename_i h1 h2 h3 h4;refine PSub.ofV (e:=⟨2,mulI a.n b.n,⟨#[]⟩⟩) (by unfold intV;rw[qJ (by omega),qJ h3];unfold binN;rw[qJ h4,qJ h]) ?_
 all_goals exact QE
set_option maxHeartbeats 4000000 in
theorem Zch(v:Vw)(e:Ex)(hv:smallV2 v)(he:okN e):AC Tryz.prog 113 [.pv (.agg (cVw v)),.pv (.agg (cEx e))] [] (.pv (.agg (cVal (evR v e)))) []:=by
 have hlen:=Z7e ((Z0h e).1 he).1;have ih:∀k,k<e.kids.length->AC Tryz.prog 113 [.pv (.agg (cVw v)),.pv (.agg (cEx (e.kids.getD k default)))] [] (.pv (.agg (cVal (evR v (e.kids.getD k default))))) []:=fun k hk=>
  have:=Ex.kid_lt (Ex.kid_at hk)
  Zch v (e.kids.getD k default) hv ((Z1h _).1 ((Z0h e).1 he).2 _ (Ex.kid_at hk))
 have hokk:∀k,k<e.kids.length->valE ((evL v e.kids).getD k default)=0:=fun k hk=>by
  rw[Z1y v e.kids k hk];exact evR_ok v ((Z1h _).1 ((Z0h e).1 he).2 _ (Ex.kid_at hk))
 have hL:=Z3c v e.kids;have hrg:=Zh3 he;have hkl:=Zfo he;have hki:=Zgi he;have hw:=Ziu v.minute;refine AC.ex2 ?_;refine AC.of_awp (T:=T) T_ok hm Tryz.call113 Tryz.func113 rfl rfl rfl ?_
 conv=>whnf
 refine loop_k (ι:=Nat) [2,3,4] [2,3,4] (fun k=>k<=e.kids.length∧True) (fun k=>e.kids.length-k) 0 (fun k=>[(5,.own 500),(6,.pv (vint k))]) (fun k=>[(500,rowL 3 cVal ((evL v e.kids).take k))]) [] ⟨qe _,trivial⟩ ?_ (fun k hk=>?_)
 ·(repeat'(first|exact QC|refine qa ?_ ?_));all_goals(first|(intro i hi;exact absurd hi (by simp))|(simp;done)|skip)
 obtain⟨hkn,hinv⟩:=hk
 conv=>whnf
 have hlk:((evL v e.kids).take k).length=k:=by rw[qq];omega
 refine⟨fun h=>?_,fun h=>?_⟩<;>(try simp only[Q0,Q1,Q2,Q3,Q4,Q5,Q6,Q7,Q8,reduceCtorEq]at h)<;>(conv=>whnf)
 ·repeat(any_goals((first|refine .inl ⟨_,ih k (by omega),?_⟩|refine QI ?_|refine QK ?_|refine .inl ⟨wrap64 (by omega),?_⟩)<;>conv=>whnf))
  refine⟨k+1,[(500,23)],⟨by omega,trivial⟩,by omega,?_⟩;rw[Zpf v e.kids k (by omega)];(repeat'(first|exact QC|refine qa ?_ ?_))
  ·simp
  refine Z05 (fun i hi=>by simp only[qK hi];exact PSubs.rfl) (by simp only[qJ (qM _),Nat.sub_self];exact PSubs.rfl)
 rw[List.take_of_length_le (by omega)];rw[evR_eq];generalize evL v e.kids=l at *;clear hlk ih hinv
 repeat(any_goals((first|refine⟨QT ?_,QF ?_⟩<;>intro h<;>(try simp only[Q0,Q1,Q2,Q3,Q4,Q5,Q6,Q7,Q8,reduceCtorEq]at h)|refine QI ?_|refine QK ?_|refine .inl ⟨wrap64 (by omega),?_⟩)<;>conv=>whnf))
 all_goals(try contradiction)
 all_goals(try(exfalso;omega))
 ·refine PSub.ofV (e:=e.value) (by unfold nodV;rw[qK h]) ?_
  all_goals exact QE
 ·repeat(any_goals((first|refine .inl ⟨_,Zle v e.key hv,?_⟩)<;>conv=>whnf))
  refine PSub.ofV (e:=atV v.items e.key) (by unfold nodV;rw[qJ (by omega),qK h]) ?_
  all_goals exact QE
 ·repeat(any_goals((first|refine .inl ⟨_,Z1u _,?_⟩)<;>conv=>whnf))
  refine PSub.ofV (e:=truV (decide (v.mode=e.name))) (by unfold nodV;rw[qJ (by omega),qJ (by omega),qK h]) ?_
  all_goals exact QE
 ·refine PSub.ofV (e:=noVal) (by unfold nodV;rw[qJ (by omega),qJ (by omega),qJ (by omega),qK (by omega),qK h]) ?_
  all_goals exact QE
 ·repeat(any_goals((first|refine .inl ⟨_,Zc0 v.minute,?_⟩|refine .inl ⟨_,Zlh (ofDay v.minute) e.n e.m,?_⟩|refine .inl ⟨_,Z1u _,?_⟩|refine QK ?_)<;>conv=>whnf))
  refine PSub.ofV (e:=truV (within (ofDay v.minute) e.n e.m)) (by unfold nodV;rw[qJ (by omega),qJ (by omega),qJ (by omega),qK (by omega),qJ (by omega),qK (by omega)]) ?_
  all_goals exact QE
 ·refine PSub.ofV (e:=noVal) (by unfold nodV;rw[qJ (by omega),qJ (by omega),qJ (by omega),qK (by omega),qK h]) ?_
  all_goals exact QE
 ·repeat(any_goals((first|refine .inl ⟨_,Zc1 v.minute,?_⟩|refine .inl ⟨_,Z1u _,?_⟩|refine QI ?_|refine QK ?_)<;>conv=>whnf))
  refine PSub.ofV (e:=truV (dayB e.n (weekday v.minute))) (by unfold nodV;rw[qJ (by omega),qJ (by omega),qJ (by omega),qK (by omega),qJ (by omega),qJ (by omega)]) ?_
  all_goals exact QE
 ·repeat(any_goals((first|refine .inl ⟨_,Zlf v e.n hv,?_⟩|refine .inl ⟨_,Z1u _,?_⟩)<;>conv=>whnf))
  refine PSub.ofV (e:=truV (homeB v.members e.n)) (by unfold nodV;rw[qJ (by omega),qJ (by omega),qJ (by omega),qJ (by omega),qK (by omega)]) ?_
  all_goals exact QE
 ·refine PSub.ofV (e:=noVal) (by unfold nodV;rw[qJ (by omega),qJ (by omega),qJ (by omega),qJ (by omega),qJ (by omega),qK (by omega),qK (by exact h)]) ?_
  all_goals exact QE
 ·repeat(any_goals((first|refine .inl ⟨_,Z1u _,?_⟩)<;>conv=>whnf))
  refine PSub.ofV (e:=truV (decide ((l.getD 0 default).n=0))) (by unfold nodV;rw[qJ (by omega),qJ (by omega),qJ (by omega),qJ (by omega),qJ (by omega),qK (by omega),qJ (by exact fun x=>x h)]) ?_
  all_goals exact QE
 ·repeat(any_goals((first|refine .inl ⟨_,AC.sub2 (Zcg l false (by show _<=_;omega)) .rfl (PSub.lit_sb rfl),?_⟩)<;>conv=>whnf))
  refine PSub.ofV (e:=chainV l false) (by unfold nodV;rw[qJ (by omega),qJ (by omega),qJ (by omega),qJ (by omega),qJ (by omega),qJ (by omega),qK (by omega)]) ?_
  all_goals exact QE
 ·repeat(any_goals((first|refine .inl ⟨_,AC.sub2 (Zcg l true (by show _<=_;omega)) .rfl (PSub.lit_sb rfl),?_⟩)<;>conv=>whnf))
  refine PSub.ofV (e:=chainV l true) (by unfold nodV;rw[qJ (by omega),qJ (by omega),qJ (by omega),qJ (by omega),qJ (by omega),qJ (by omega),qJ (by omega),qK (by omega)]) ?_
  all_goals exact QE
 ·refine PSub.ofV (e:=noVal) (by unfold nodV;rw[qJ (by omega),qJ (by omega),qJ (by omega),qJ (by omega),qJ (by omega),qJ (by omega),qJ (by omega),qJ (by omega),qK (by omega),qK (by exact .inl h)]) ?_
  all_goals exact QE
 ·refine PSub.ofV (e:=noVal) (by unfold nodV;rw[qJ (by omega),qJ (by omega),qJ (by omega),qJ (by omega),qJ (by omega),qJ (by omega),qJ (by omega),qJ (by omega),qK (by omega),qK (by exact .inr h)]) ?_
  all_goals exact QE
 ·repeat(any_goals((first|refine .inl ⟨_,Z1u _,?_⟩|refine QK ?_)<;>conv=>whnf))
  rw[val_eq];refine PSub.ofV (e:=truV (decide ((l.getD 0 default)=(l.getD 1 default)))) (by unfold nodV;rw[qJ (by omega),qJ (by omega),qJ (by omega),qJ (by omega),qJ (by omega),qJ (by omega),qJ (by omega),qJ (by omega),qK (by omega),qJ (by rename_i h1;exact fun x=>x.elim h1 h)]) ?_
  all_goals exact QE
 ·refine PSub.ofV (e:=noVal) (by unfold nodV;rw[qJ (by omega),qJ (by omega),qJ (by omega),qJ (by omega),qJ (by omega),qJ (by omega),qJ (by omega),qJ (by omega),qJ (by omega),qK (by omega),qK (by exact h)]) ?_
  all_goals exact QE
 ·have hb:=Z67 (hokk 0 (by omega)) h;have hn:0<=(l.getD (Int.toNat 0) default).n∧(l.getD (Int.toNat 0) default).n<=1:=by
   show 0<=(l.getD 0 default).n∧(l.getD 0 default).n<=1
   rcases hb with hb|hb<;>(rw[hb];decide)
  repeat(any_goals((first|refine QI ?_|refine .inl ⟨wrap64 (by omega),?_⟩)<;>conv=>whnf))
  refine PSub.ofV (e:=l.getD (2-(l.getD 0 default).n).toNat default) (by unfold nodV;rw[qJ (by omega),qJ (by omega),qJ (by omega),qJ (by omega),qJ (by omega),qJ (by omega),qJ (by omega),qJ (by omega),qJ (by omega),qK (by omega),qJ (by exact fun x=>x h)]) ?_
  all_goals exact QE
 repeat(any_goals((first|refine .inl ⟨_,Zlg e.kind (l.getD 0 default) (l.getD 1 default) (hokk 0 (by omega)) (hokk 1 (by omega)),?_⟩|refine QK ?_)<;>conv=>whnf))
 refine PSub.ofV (e:=intV e.kind (l.getD 0 default) (l.getD 1 default)) (by unfold nodV;rw[qJ (by omega),qJ (by omega),qJ (by omega),qJ (by omega),qJ (by omega),qJ (by omega),qJ (by omega),qJ (by omega),qJ (by omega),qJ (by omega)]) ?_
 all_goals exact QE
termination_by SizeOf.sizeOf e
theorem Z8g(v:Vw)(e:Ex)(hv:smallV2 v):AC Tryz.prog 64 [.pv (.agg (cVw v)),.pv (.agg (cEx e))] [] (.pv (.tup [.agg (cVal (evlE v e).1),vbool (evlE v e).2])) []:=by
 have hok:exE e=0->okN e:=fun h=>((Z4a e).1 h).1
 refine AC.of_awp (T:=T) T_ok hm Tryz.call64 Tryz.func64 rfl rfl rfl ?_
 conv=>whnf
 repeat(any_goals((first|refine⟨QT ?_,QF ?_⟩<;>intro h<;>(try simp only[Q0,Q1,Q2,Q3,Q4,Q5,Q6,Q7,Q8,reduceCtorEq]at h)|refine .inl ⟨_,Z6f e,?_⟩|refine .inl ⟨_,Zch v e hv (hok (by assumption)),?_⟩|refine QK ?_)<;>conv=>whnf))
 ·rw[show evlE v e=(noVal,false)from qK h];refine⟨?_,?_⟩<;>(conv=>whnf)
  ·exact QE
  exact QE
 rw[show evlE v e=fndV (evR v e)from qJ (fun x=>x h)];have hz:=evR_ok v (hok h)
 by_cases hk:(evR v e).kind=0
 ·rw[Z4c hk,Zx2 hz hk];refine⟨?_,?_⟩<;>(conv=>whnf)
  ·exact QE
  exact PSub.sb rfl
 rw[Z2f hk];refine⟨?_,?_⟩<;>(conv=>whnf)
 ·exact QE
 exact PSub.sb (by simp[hk])
theorem Zld(v:Vw)(e:Ex)(hv:smallV2 v):AC Tryz.prog 35 [.pv (.agg (cVw v)),.pv (.agg (cEx e))] [] (.pv (vbool (truE v e))) []:=by
 refine AC.of_awp (T:=T) T_ok hm Tryz.call35 Tryz.func35 rfl rfl rfl ?_
 conv=>whnf
 repeat(any_goals((first|refine⟨QT ?_,QF ?_⟩<;>intro h<;>(try simp only[Q0,Q1,Q2,Q3,Q4,Q5,Q6,Q7,Q8,reduceCtorEq]at h)|refine .inl ⟨_,Z8g v e hv,?_⟩|refine .inl ⟨_,AC.sub1 (Z1u true) (PSub.lit_sb rfl),?_⟩|refine QK ?_)<;>conv=>whnf))
 ·exact PSub.sb (by unfold truE;rw[h,Bool.true_and];exact val_eq _ _)
 exact PSub.lit_sb (by unfold truE;rw[h];rfl)
open Go.RowKit
variable [Globals]
def celQ(T:Tab)(fn:Func)(res:AV)(os':Upd)(s:AState):Prop:=
 match s with
 |⟨tm,ob⟩=>match fn.results.toList with
  | [.cell x ty]=>match T ty with
   |some y=>match getT tm x with
    | .ptr l 0=>match(getO ob l).bind boxC with
     |some cs=>chk (aggD y.und) (chk (Nat.beq y.info.size cs.length) (chk (Nat.blt x fn.ntmps) (∃r,entS r ⟨(x,.mix cs)::tm,ob⟩ ⟨[(x,res)],os'⟩)))
     |_=>False
    |_=>False
   |none=>False
  |_=>False
def celE(T:Tab)(fn:Func)(res:AV)(os':Upd):AExit->AState->Prop
 | .exit _,_=>False
 | .normal,s=>celQ T fn res os' s
 | .ret,s=>celQ T fn res os' s
theorem AC.of_awp_cel{P:Program}{T:Tab}{f:FuncId}{fn:Func}{c:Code}{args:List AV}{os os':Upd}{res:AV}(hT:T.ok P)(hm:P.follows .mixedOrders=true)(hcall:∀(vals:Array Value) (w:World),(callFunc f vals).run P w = .ok (.enter f vals) w)
  (hf:P.funcs[f]? = some fn) (hb:fn.body=some c) (hn:Nat.ble args.length fn.ntmps=true) (hp:wsT os (argTm 0 args)=true) (ho:wsO os os=true) (hid:os.all (fun x=>Nat.ble 900000 x.1)=true) (hcov:os.all (fun x=>(getO os' x.1).isSome)=true)
  (h:awp P T fn.ntmps c ⟨argTm 0 args,os⟩ (celE T fn res os')):AC P f args os res os':=by
 refine⟨hcall,fun St M0 σ w vals hi hσ hos hl hA=>?_⟩;have hin':∀l loc,σ l=some loc->∃o,getO os l=some o∧(l,o)∈os:=fun l loc e=>by
  cases e2:getO os l with
  |none=>rw[hσ l e2]at e;cases e
  |some o=>exact⟨o,rfl,Z1z e2⟩
 have hE:FEnv.ok ⟨fn.ntmps,St,M0,owned σ,w,σ⟩:=⟨fun b hb=>hi.m0 b hb,fun b hb=>hi.st b hb,hi.gl.mono (Same.refl _ w) (fun b _ hb=>hb),fun l loc e=>by
  obtain⟨o,_,hm⟩:=hin' l loc e;exact qi (qz.1 hid (l,o) hm)⟩
 have hle:=qi hn;have hget:∀t x,getT (argTm 0 args) t=x->x = .junk∨args[t]? = some x:=by
  intro t x e;rw[Z1v,qJ (by omega)]at e;cases ha:args[t-0]? with
  |none=>rw[ha]at e;exact .inl e.symm
  |some y=>rw[ha]at e;simp at e ha;subst e;exact .inr rfl
 have hR:Rel P ⟨fn.ntmps,St,M0,owned σ,w,σ⟩ ⟨argTm 0 args,os⟩ σ { tmps:=vals++Array.replicate (fn.ntmps-vals.size) undef,defers:=[] } w:=by
  refine⟨by simp;omega,rfl,fun t=>?_,hos,hσ,fun t l hl'=>?_,fun i o e l hl'=>Z7x ho i o (Z1z e) l hl',hi.sep,fun b hb=>.inl hb,FExt.refl _ w,fun l loc e=>?_⟩
  ·rcases hget t _ rfl with e|e
   ·rw[e];exact .junk _
   ·have:=hA t _ e;have hlt:t<args.length:=(qf.1 e).1;rw[Z0b (by omega)];exact this
  ·rcases Z4h (l:=argTm 0 args) (t:=t)with e|⟨v,hm,e⟩
   ·simp only[e]at hl';simp[refs]at hl'
   ·simp only[e]at hl';exact Z68 hp t v hm l hl'
  ·obtain⟨o,h1,_⟩:=hin' l loc e;exact⟨by show getO os l≠none;rw[h1];simp,fun loc' e'=>by rw[show σ l=some loc from e]at e';cases e';rfl⟩
 refine calls_of_wp hf hb (wp_mono (Z13 hE hT hm c _ _ _ _ w hR h) (fun e a' w' he=>?_));have hc:∀l:List ResultVar,fn.results.toList=l->fn.results=l.toArray:=fun l e=>by rw[<-e]
 have post:∀(tm':List (Nat×AV)) (σ':Sig) (v:Value),Rel P ⟨fn.ntmps,St,M0,owned σ,w,σ⟩ ⟨tm',os'⟩ σ' a' w'->AR P w' St (Mof M0 σ') σ' res v->Post P St M0 σ w os' res σ' v w':=by
  intro tm' σ' v hR' hv;refine⟨hv,hR'.ob,fun l e=>?_,fun l loc loc' e e'=>(hR'.pn l loc e).2 loc' e',hR'.sep,fun b hb=>hR'.own b hb,hR'.ext.mono (fun b _ hb=>?_)⟩
  ·rw[hR'.nob l e];cases e2:σ l with
   |none=>rfl
   |some loc=>
    obtain⟨o,_,hm⟩:=hin' l loc e2;have:=qz.1 hcov (l,o) hm;simp only[e]at this;cases this
  ·obtain⟨l,loc,h1,h2⟩:=hb;obtain⟨o,_,hm⟩:=hin' l loc h1;have:=qz.1 hcov (l,o) hm;exact⟨l,loc,fun e=>(by simp only[e]at this;cases this),h1,h2⟩
 have fin:(∃s σ',celQ T fn res os' s∧Rel P ⟨fn.ntmps,St,M0,owned σ,w,σ⟩ s σ' a' w')->a'.defers = []∧∃v,(results fn a'.tmps).run P w' = .ok v w'∧∃v_1 σ',Ending.returned v = .returned v_1∧Post P St M0 σ w os' res σ' v_1 w':=by
  rintro ⟨⟨tm,ob⟩,σ2,hq,hR'⟩
  unfold celQ at hq;simp only at hq
  split at hq
  ·rename_i x ty hr
   split at hq
   ·rename_i y hy
    split at hq
    ·rename_i l hx
     split at hq
     ·rename_i cs hob';obtain⟨bo,hob,hbc⟩:=Option.bind_eq_some_iff.1 hob';obtain⟨hd,hq⟩:=Z02 hq;obtain⟨hfit,hq⟩:=Z02 hq;obtain⟨hlt,r,hq⟩:=Z02 hq;have hfit:=qg hfit;have hlt:x<fn.ntmps:=qi hlt;obtain⟨b,vs,t',hl,hb,hs,hq',hone⟩:=Zd4 hbc (hR'.ob l _ hob);have hA:=hR'.tm x;rw[show getT tm x = .ptr l 0 from hx]at hA;obtain⟨b',hb',hv⟩:=Z1n hA hl;cases hb';obtain⟨hin,hu,_⟩:=hT ty y hy;have hagg:(isAgg ty).run P w' = .ok true w':=by
       unfold aggD at hd
       split at hd
       ·rename_i e;simp[isAgg,run_underlying (e▸hu)]
       ·rename_i e;simp[isAgg,run_underlying (e▸hu)]
       ·cases hd
      have hsz:(sizeOf ty).run P w' = .ok y.info.size w':=by simp[sizeOf,Z0o hin]
      have hload:=run_loadCells (P:=P) w' ⟨b,0,none⟩ y.info.size (fun j=>vs.getD j undef) (fun j hj=>by
       have hlt:j<vs.size:=by omega
       have hadd:(⟨b,0,none⟩:Addr).add j=⟨b,j,none⟩:=by unfold Addr.add;split<;>simp_all
       rw[hadd];simp[World.cell?,hb,Array.getD,hlt])
      have hv':a'.tmps[x]?.getD undef = .pointer (some ⟨b,0,none⟩):=by rw[<-hv];simp[qb]
      obtain⟨V,hV⟩:∃V,V=Value.agg ((List.range y.info.size).map fun j=>vs.getD j undef).toArray:=⟨_,rfl⟩;have hrun:(results fn a'.tmps).run P w' = .ok V w':=by
       rw[Z3p hr];simp[rvRun,asAddr,hv',loadVar,hagg,hsz,hload,hV]
      have hcell:∀i,i<y.info.size->(((List.range y.info.size).map fun j=>vs.getD j undef).toArray.getD i undef)=vs.getD i undef:=fun i hi=>by simp[Array.getD,hi]
      have hVA:AR P w' St (Mof M0 σ2) σ2 (.mix cs) V:=by
       rw[hV];refine .mix _ _ (by simp[hfit]) (fun i c e=>?_) (fun i hi'=>?_)
       ·have hi2:i<y.info.size:=by rw[hfit];exact(qf.1 e).1
        rw[hcell i hi2];exact hq' i c e
       ·have hi2:i<y.info.size:=by simpa using hi'
        rw[hcell i hi2];exact hone _ (by omega)
      have hR1:Rel P ⟨fn.ntmps,St,M0,owned σ,w,σ⟩ ⟨(x,.mix cs)::tm,ob⟩ σ2 (a'.put (some x) V) w':=by
       refine RelF.post (dst:=some x) (u:=[]) (v:=.mix cs) hE hR' (Post.still hR'.sep hVA) (fun t e=>by cases e;exact hlt) (fun l obj e=>by simp[getO]at e) (fun k hk=>.inl (hR'.wo l _ hob k (Zda hbc (by simpa[refs]using hk)))) (fun i obj e=>by simp[getO]at e) (fun t=>?_) (fun l=>.inr ⟨rfl,rfl⟩);simp only[Z0m]
       by_cases e:x=t
       ·exact .inl ⟨by rw[e],by rw[qK e]⟩
       ·exact .inr ⟨fun h=>e (qN h),by rw[qJ e]⟩
      obtain⟨σ',hR2⟩:=Z0j hq _ σ2 _ w' hE hR1;have h1:=hR2.tm x;simp only[Z0m,if_true]at h1;have hget:(a'.put (some x) V).tmps.getD x undef=V:=by
       have:x<a'.tmps.size:=by rw[hR'.sz];exact hlt
       simp[Act.put,qb,this]
      rw[hget]at h1;refine⟨hR'.df,V,hrun,V,σ',rfl,?_⟩;refine⟨h1,hR2.ob,fun l e=>?_,fun l loc loc' e e'=>(hR2.pn l loc e).2 loc' e',hR2.sep,fun b hb=>hR2.own b hb,hR2.ext.mono (fun b _ hb=>?_)⟩
      ·rw[hR2.nob l e];cases e2:σ l with
       |none=>rfl
       |some loc=>
        obtain⟨o,_,hm⟩:=hin' l loc e2;have:=qz.1 hcov (l,o) hm;simp only[e]at this;cases this
      ·obtain⟨l,loc,h1,h2⟩:=hb;obtain⟨o,_,hm⟩:=hin' l loc h1;have:=qz.1 hcov (l,o) hm;exact⟨l,loc,fun e=>(by simp only[e]at this;cases this),h1,h2⟩
     ·exact hq.elim
    ·exact hq.elim
   ·exact hq.elim
  ·exact hq.elim
 cases e with
 |normal=>exact fin he
 |ret=>exact fin he
 |exit i=>obtain⟨s,σ,hq,_⟩:=he;exact hq.elim
 |goto l=>exact he.elim
 |panic c=>exact he.elim
 |outgrown=>exact he.elim
end Go.Abs
namespace Go.Abs
open Go.Proofs Go.RowKit
section
variable {H:Type} {enc:TypeId×Value->H} {w:World} {bulk:DataW H->Nat}
theorem Zss(hB:BulkOk bulk):Opens enc Tryz.prog w bulk BB 35 (fun l:List Key=>[roL 3 cKey l]) smallL:=
 (Opens.slice hB Tryz.underlying35 (by kernel_rfl) (by decide) (op_Key hB)).imp id (fun _=>rfl) (fun _ h=>h.1)
theorem Zsf(hB:BulkOk bulk):Opens enc Tryz.prog w bulk BB 76 cSce (fun s=>goodItems s.items):=
 (Opens.struct hB Tryz.underlying76 (by kernel_rfl) (.cons (size:=1) rfl (by kernel_rfl) (Z0k hB) (.cons (size:=1) rfl (by kernel_rfl) (Zgm hB) .nil))).imp (fun x=>⟨x.1,x.2.1⟩) (fun _=>rfl) (fun _ h=>h.2.1)
end
open Go.Proofs
set_option maxRecDepth 10000
theorem Zkj(a b:Val):AC Tryz.prog 71 [.pv (.agg (cVal a)),.pv (.agg (cVal b))] [] (.pv (vbool (vLess a b))) []:=by
 refine AC.of_awp (T:=T) T_ok hm Tryz.call71 Tryz.func71 rfl rfl rfl ?_
 conv=>whnf
 repeat(any_goals((first|refine⟨QT ?_,QF ?_⟩<;>intro h<;>(try simp only[Q0,Q1,Q2,Q3,Q4,Q5,Q6,Q7,Q8,reduceCtorEq]at h))<;>conv=>whnf))
 all_goals(refine PSub.sb ?_;unfold vLess;simp[*];try rfl)
theorem Zci(a b:Write):AC Tryz.prog 41 [.pv (.agg (cWrite a)),.pv (.agg (cWrite b))] [] (.pv (vbool (befW a b))) []:=by
 refine AC.of_awp (T:=T) T_ok hm Tryz.call41 Tryz.func41 rfl rfl rfl ?_
 conv=>whnf
 repeat(any_goals((first|refine⟨QT ?_,QF ?_⟩<;>intro h<;>(try simp only[Q0,Q1,Q2,Q3,Q4,Q5,Q6,Q7,Q8,reduceCtorEq]at h)|refine .inl ⟨_,Zkj a.value b.value,?_⟩|refine .inl ⟨_,Z53 a.key b.key,?_⟩)<;>conv=>whnf))
 ·refine PSub.sb ?_;unfold befW;rw[qK h]
 ·refine PSub.sb ?_;unfold befW;rw[qJ (by omega),qK h]
 ·refine PSub.sb ?_;unfold befW;rw[qJ (by omega),qJ (by omega),qK h];rfl
 ·refine PSub.sb ?_;unfold befW;rw[qJ (by omega),qJ (by omega),qJ (by simp_all),qK h]
 ·have h2:decide (a.value=b.value)=false:=(Z2t _ _).symm.trans h;refine PSub.sb ?_;unfold befW;rw[qJ (by omega),qJ (by omega),qJ (by simp_all),qJ (by omega),qK (of_decide_eq_false h2)]
 have h2:decide (a.value=b.value)=true:=(Z2t _ _).symm.trans h;refine PSub.sb ?_;unfold befW;rw[qJ (by omega),qJ (by omega),qJ (by simp_all),qJ (by omega),qJ (fun x=>x (qC h2))]
theorem Zlt(a b:Write):AC Tryz.prog 122 [.pv (.agg (cWrite a)),.pv (.agg (cWrite b))] [] (.pv (vbool (ordW a b))) []:=by
 refine AC.of_awp (T:=T) T_ok hm Tryz.call122 Tryz.func122 rfl rfl rfl ?_
 conv=>whnf
 repeat(any_goals((first|refine⟨QT ?_,QF ?_⟩<;>intro h<;>(try simp only[Q0,Q1,Q2,Q3,Q4,Q5,Q6,Q7,Q8,reduceCtorEq]at h)|refine .inl ⟨_,Z53 a.key b.key,?_⟩|refine .inl ⟨_,Zci a b,?_⟩)<;>conv=>whnf))
 ·have h2:decide (a.key=b.key)=false:=(key_eq _ _).symm.trans h;refine PSub.sb ?_;unfold ordW;rw[qK (of_decide_eq_false h2)]
 have h2:decide (a.key=b.key)=true:=(key_eq _ _).symm.trans h;refine PSub.sb ?_;unfold ordW;rw[qJ (fun x=>x (qC h2))]
theorem Zll(a b:Key):AC Tryz.prog 230 [.pv (.agg (cKey a)),.pv (.agg (cKey b))] [] (.pv (vbool (keyLess a b))) []:=by
 refine AC.of_awp (T:=T) T_ok hm Tryz.call230 Tryz.func230 rfl rfl rfl ?_
 conv=>whnf
 repeat(any_goals((first|refine⟨QT ?_,QF ?_⟩<;>intro h<;>(try simp only[Q0,Q1,Q2,Q3,Q4,Q5,Q6,Q7,Q8,reduceCtorEq]at h))<;>conv=>whnf))
 all_goals(try simp only[Q0,Q1,Q2,Q3,Q4,Q5,Q6,Q7,Q8,reduceCtorEq]at *)
 all_goals first
  |contradiction
  |(exfalso;omega)
  |exact PSub.rfl
  |(refine PSub.int ?_;simp only[keyLess];(repeat' split)<;>first|rfl|omega|(simp_all[-List.getD_eq_getElem?_getD];done)|(simp_all[-List.getD_eq_getElem?_getD];omega))
  |(refine PSub.sb ?_;simp_all[keyLess,-List.getD_eq_getElem?_getD];done)
  |(refine PSub.lit_sb ?_;simp_all[keyLess,-List.getD_eq_getElem?_getD];done)
  |(refine PSub.sb_lit ?_;simp_all[keyLess,-List.getD_eq_getElem?_getD];done)
  |(refine PSub.sb ?_;rw[qt];simp_all[keyLess,-List.getD_eq_getElem?_getD];done)
  |(refine PSub.lit_sb ?_;rw[qt];simp_all[keyLess,-List.getD_eq_getElem?_getD];done)
  |(refine PSub.sb_lit ?_;rw[qt];simp_all[keyLess,-List.getD_eq_getElem?_getD];done)
  |skip
theorem Z4j{α:Type}[Inhabited α]{m:List α}{x:α}{j i:Nat}(h:j<=m.length):(insL m j x).getD i default=if i<j then m.getD i default else if i=j then x else m.getD (i-1) default:=by
 by_cases h1:i<j
 ·rw[qK h1];exact Zf5 h h1
 rw[qJ h1]
 by_cases h2:i=j
 ·rw[qK h2,h2];exact Zf3 h
 rw[qJ h2];unfold insL;have h3:(m.take j).length=j:=by rw[qq];omega
 simp only[List.getD,qv (show(m.take j).length<=i by omega),h3];obtain⟨d,rfl⟩:∃d,i=j+(d+1):=⟨i-j-1,by omega⟩;rw[show j+(d+1)-j=d+1 by omega,List.getElem?_cons_succ,qA,show j+(d+1)-1=j+d by omega]
theorem Zf4{α:Type}(m:List α)(x:α):insL m m.length x=m ++ [x]:=by simp[insL]
theorem Zfa{α:Type}[Inhabited α]{m:List α}{x:α}{j:Nat}(hp:0<j)(hj:j<=m.length):swp (insL m j x) j (j-1)=insL m (j-1) x:=by
 have hl:=Z3g (x:=x) hj;have hl2:=Z3g (x:=x) (show j-1<=m.length by omega);refine Z0w (by rw[Z1s,hl,hl2]) fun q hq=>?_
 rw[Z4w (by omega) (by omega),Z4j hj,Z4j hj,Z4j (show j-1<=m.length by omega),Z4j hj]
 by_cases e1:q=j-1
 ·subst e1;rw[qK rfl,qJ (qM _),qK rfl,qJ (qM _),qK rfl]
 rw[qJ e1]
 by_cases e2:q=j
 ·subst e2;rw[qK rfl,qK (by omega),qJ (by omega),qJ (by omega)]
 rw[qJ e2]
 by_cases e3:q<j
 ·rw[qK e3,qK (by omega)]
 rw[qJ e3,qJ e2,qJ (by omega),qJ (by omega)]
theorem Zwq{l:List Key}{i j:Nat}(hi:i<l.length)(hj:j<l.length)(q:Nat):PSubs (updAt (updAt (fun q=>cKey (l.getD q default)) i 0 (cKey (l.getD j default))) j 0 (cKey (l.getD i default)) q) (cKey ((swp l i j).getD q default)):=by
 rw[Z4w hi hj]
 by_cases e:q=j
 ·subst e;rw[qK rfl,Z19]
  by_cases e2:q=i
  ·subst e2;rw[Z19];exact PSubs.rfl
  rw[Z11 e2];exact PSubs.rfl
 rw[qJ e,Z11 e]
 by_cases e2:q=i
 ·subst e2;rw[qK rfl,Z19];exact PSubs.rfl
 rw[qJ e2,Z11 e2];exact PSubs.rfl
theorem Zh1{m:List Key}{x:Key}{j:Nat}(hA:Asc m)(hx:x∉m)(hj:j<=m.length)(h1:∀i,j<=i->i<m.length->keyLess x (m.getD i default)=true)(h2:j=0∨keyLess x (m.getD (j-1) default)=false):insL m j x=putK m x:=by
 have hne:∀i,i<m.length->m.getD i default≠x:=fun i hi e=>hx (by rw[<-e,Z03 _ _ hi];exact qE hi)
 refine Z5t hA hj (fun i hi=>?_) (fun h=>Za2 (h1 j (qL _) h)) ?_
 ·have h3:=h2.resolve_left (by omega);have h4:keyLess (m.getD (j-1) default) x=true:=(Z20 (hne (j-1) (by omega))).resolve_right (by rw[h3];decide)
  by_cases e:i=j-1
  ·subst e;exact h4
  refine Z3h ?_ h4;rw[Z03 _ _ (show i<m.length by omega),Z03 _ _ (show j-1<m.length by omega)];exact List.pairwise_iff_getElem.1 hA i (j-1) (by omega) (by omega) (by omega)
 by_cases e:j=m.length
 ·exact .inl e
 exact .inr (hne j (by omega))
theorem Zuf{l:List Key}{x:Key}(h:x∈l):sortK (l ++ [x])=sortK l:=Z61 fun y=>by
 rw[qo,List.mem_singleton];exact⟨fun h2=>h2.elim id (fun e=>e▸h),.inl⟩
theorem any_in{m:List Key}{x:Key}:(anyN m.length fun i=>decide (m.getD i default=x))=true↔x∈m:=by
 rw[Z6g];constructor
 ·rintro ⟨i,hi,h⟩
  have h:=qC h;rw[Z03 _ _ hi]at h;exact h▸qE hi
 intro h;obtain⟨i,hi,e⟩:=qp h;exact⟨i,hi,qB (by rw[Z03 _ _ hi];exact e)⟩
theorem Znx{n:Nat}{p:Nat->Bool}:anyN (n+1) p=(anyN n p||p n):=by
 rw[qt,Bool.or_eq_true,Z6g,Z6g];constructor
 ·rintro ⟨i,hi,h⟩
  by_cases e:i=n
  ·subst e;exact .inr h
  exact .inl ⟨i,by omega,h⟩
 rintro (⟨i,hi,h⟩|h)
 ·exact⟨i,by omega,h⟩
 exact⟨n,by omega,h⟩
set_option maxHeartbeats 2000000 in
theorem Zlm(l:List Key)(hl:smallL l):AC Tryz.prog 175 [.pv (roL 3 cKey l)] [] (.pv (roL 3 cKey (sortK l))) []:=by
 have hl:l.length<=1048576:=hl;refine AC.of_awp (T:=T) T_ok hm Tryz.call175 Tryz.func175 rfl rfl rfl ?_
 conv=>whnf
 refine loop_k (ι:=Nat) [0] [] (fun k=>k<=l.length∧True) (fun k=>l.length-k) 0 (fun k=>[(3,.own 500),(4,.pv (vint k))]) (fun k=>[(500,rowL 3 cKey (sortK (l.take k)))]) [] ⟨qe _,trivial⟩ ?_ (fun k hk=>?_)
 ·(repeat'(first|exact QC|refine qa ?_ ?_));all_goals((intro i hi;exact absurd hi (by simp[sortK])))
 obtain⟨hkn,hinv⟩:=hk
 conv=>whnf
 have hlen:=Z4v (l.take k);rw[qq]at hlen;refine⟨fun h=>?_,fun h=>?_⟩<;>(try simp only[Q0,Q1,Q2,Q3,Q4,Q5,Q6,Q7,Q8,reduceCtorEq]at h)<;>(conv=>whnf)
 ·have hk:k<l.length:=by omega
  have hA:=Z2c (l.take k);have hS:=Zi0 (l.take k) (l.getD k default);have hseen:=fun(h:l.getD k default∈l.take k)=>Zuf h
  rw[<-Z09 hk]at hS;have hmem:l.getD k default∈sortK (l.take k)↔l.getD k default∈l.take k:=Z2j;obtain⟨x,hxdef⟩:∃x,x=l.getD k default:=⟨_,rfl⟩;rw[<-hxdef]at hS hmem hseen;generalize sortK (l.take k)=m at *
  skip
  refine loop_k (ι:=Nat) [0,3,4] [500] (fun q=>q<=m.length) (fun q=>m.length-q) 0 (fun q=>[(5,.pv (.sb (anyN q fun i=>decide (m.getD i default=x)))),(6,.pv (vint q))]) (fun _=>[]) [] (qe _) ?_ (fun q hq=>?_)
  ·(repeat'(first|exact QC|refine qa ?_ ?_))
   ·intro i hi;exact PSubs.rfl
   all_goals exact PSub.lit_sb (by rw[Z0d fun j hj=>absurd hj (by omega)])
  have hmo:=Znx (n:=q) (p:=fun i=>decide (m.getD i default=x))
  conv=>whnf
  repeat(any_goals((first|refine⟨QT ?_,QF ?_⟩<;>intro h<;>(try simp only[Q0,Q1,Q2,Q3,Q4,Q5,Q6,Q7,Q8,reduceCtorEq]at h)|refine QI ?_|refine QK ?_|refine .inl ⟨wrap64 (by omega),?_⟩)<;>conv=>whnf))
  ·refine⟨q+1,[],by omega,by omega,?_⟩;(repeat'(first|exact QC|refine qa ?_ ?_))
   ·intro i hi;exact PSubs.rfl
   all_goals exact PSub.lit_sb (by rw[hmo,h];rfl)
  ·refine⟨q+1,[],by omega,by omega,?_⟩;(repeat'(first|exact QC|refine qa ?_ ?_))
   ·intro i hi;exact PSubs.rfl
   all_goals
    refine PSub.sb ?_;rw[hmo,h,Bool.false_or,hxdef];exact key_eq _ _
  ·have hq2:q=m.length:=by omega
   subst hq2;have hS2:sortK (l.take (k+1))=m:=by rw[Z09 hk,<-hxdef];exact hseen (hmem.1 (any_in.1 h))
   refine⟨k+1,[],⟨by omega,trivial⟩,by omega,?_⟩;rw[hS2];(repeat'(first|exact QC|refine qa ?_ ?_))
   all_goals(intro i hi;exact PSubs.rfl)
  have hq2:q=m.length:=by omega
  subst hq2;have hx:x∉m:=fun h2=>by rw[any_in.2 h2]at h;cases h
  refine loop_k (ι:=Nat) [0,4] [] (fun j=>j<=m.length∧∀i,j<=i->i<m.length->keyLess x (m.getD i default)=true) (fun j=>j) m.length (fun j=>[(3,.own 501),(7,.pv (vint j))]) (fun j=>[(501,rowL 3 cKey (insL m j x))]) [(501,40)] ⟨qL _,fun i h1 h2=>absurd h2 (by omega)⟩ ?_ (fun j hj=>?_)
  ·rw[Zf4];(repeat'(first|exact QC|refine qa ?_ ?_))
   ·simp
   ·rw[hxdef];refine Z05 (fun i hi=>by simp only[qK hi];exact PSubs.rfl) (by simp only[qJ (qM _),Nat.sub_self];exact PSubs.rfl)
   exact PSub.int (by omega)
  obtain⟨hjn,hinv⟩:=hj;have hil:=Z3g (x:=x) hjn;have hg:∀i,(insL m j x).getD i default=if i<j then m.getD i default else if i=j then x else m.getD (i-1) default:=fun i=>Z4j hjn
  have hxj:(insL m j x).getD j default=x:=by rw[hg,qJ (by omega),qK rfl]
  have hj1:((j:Int)-1).toNat=j-1:=by omega
  have hmj:0<j->(insL m j x).getD (j-1) default=m.getD (j-1) default:=fun h=>by rw[hg,qK (by omega)]
  conv=>whnf
  repeat(any_goals((first|refine⟨QT ?_,QF ?_⟩<;>intro h<;>(try simp only[Q0,Q1,Q2,Q3,Q4,Q5,Q6,Q7,Q8,reduceCtorEq]at h)|refine .inl ⟨_,Zll ((insL m j x).getD j default) ((insL m j x).getD ((j:Int)-1).toNat default),?_⟩|refine QI ?_|refine QK ?_|refine .inl ⟨wrap64 (by omega),?_⟩)<;>conv=>whnf))
  ·have hpos:0<j:=by omega
   rw[hj1,hxj,hmj hpos]at h;refine⟨j-1,[],⟨by omega,fun i h1 h2=>?_⟩,by omega,?_⟩
   ·by_cases e:i=j-1
    ·subst e;exact h
    exact hinv i (by omega) h2
   have hil2:=Z3g (x:=x) (show j-1<=m.length by omega);(repeat'(first|exact QC|refine qa ?_ ?_))
   ·rw[hil2,hil]
   ·intro i hi;rw[<-Zfa hpos hjn];simp only[Q4,hj1];exact Zwq (by omega) (by omega) i
   exact PSub.int (by omega)
  ·have hpos:0<j:=by omega
   rw[hj1,hxj,hmj hpos]at h;refine⟨k+1,[(500,501)],⟨by omega,trivial⟩,by omega,?_⟩;rw[hS,<-Zh1 hA hx hjn hinv (.inr h)];(repeat'(first|exact QC|refine qa ?_ ?_))
   all_goals(intro i hi;exact PSubs.rfl)
  have hz:j=0:=by omega
  refine⟨k+1,[(500,501)],⟨by omega,trivial⟩,by omega,?_⟩;rw[hS,<-Zh1 hA hx hjn hinv (.inl hz)];(repeat'(first|exact QC|refine qa ?_ ?_))
  all_goals(intro i hi;exact PSubs.rfl)
 rw[List.take_of_length_le (by omega)];exact .rfl
set_option maxHeartbeats 1000000 in
theorem Zlk(p:Hap)(hh:smallHp p):AC Tryz.prog 109 [.pv (.agg (cHap p))] [] (.pv (.agg (cHap (normH p)))) []:=by
 have hc:p.changed.length<=1048576:=hh.c;refine AC.of_awp (T:=T) T_ok hm Tryz.call109 Tryz.func109 rfl rfl rfl ?_
 conv=>whnf
 repeat(any_goals((first|refine .inl ⟨_,Zlm p.events hh.e,?_⟩|refine .inl ⟨_,Z51 p.held hh.h,?_⟩|refine QK ?_)<;>conv=>whnf))
 refine loop_k (ι:=Nat) [1,2] [1,2] (fun k=>k<=p.changed.length∧True) (fun k=>p.changed.length-k) 0 (fun k=>[(3,.ptr 3 0),(4,.pv (vint k))]) (fun k=>[(3,.pbox [roL 3 cKey (sortK (p.changed.take k)),roL 3 cKey (sortK p.events),vint p.fr,vint p.to,vstr p.mode,vbool p.start,roL 1 cstr (sortS p.held)])]) [] ⟨qe _,trivial⟩ ?_ (fun k hk=>?_)
 ·(repeat'(first|exact QC|refine qa ?_ ?_));all_goals(exact PSub.nilL rfl)
 obtain⟨hkn,hinv⟩:=hk
 conv=>whnf
 have hlen:=Z4v (p.changed.take k);rw[qq]at hlen;refine⟨fun h=>?_,fun h=>?_⟩<;>(try simp only[Q0,Q1,Q2,Q3,Q4,Q5,Q6,Q7,Q8,reduceCtorEq]at h)<;>(conv=>whnf)
 ·have hk:k<p.changed.length:=by omega
  have hS:=Zb8 hk
  repeat(any_goals((first|refine .inl ⟨_,Zks (sortK (p.changed.take k)) (p.changed.getD k default) (by omega),?_⟩|refine QI ?_|refine QK ?_|refine .inl ⟨wrap64 (by omega),?_⟩)<;>conv=>whnf))
  refine⟨k+1,[],⟨by omega,trivial⟩,by omega,?_⟩;rw[hS]
  all_goals exact QD
 have hk:k=p.changed.length:=by omega
 subst hk;rw[List.take_length]
 repeat(any_goals((first|refine⟨QT ?_,QF ?_⟩<;>intro h<;>(try simp only[Q0,Q1,Q2,Q3,Q4,Q5,Q6,Q7,Q8,reduceCtorEq]at h)|refine .inl ⟨wrap64 (by omega),?_⟩)<;>conv=>whnf))
 all_goals
  refine PSub.agg ⟨.rfl,.rfl,(?_:PSub _ (vint (winF p.fr p.to))),(?_:PSub _ (vint (winT p.fr p.to))),.rfl,.rfl,.rfl,trivial⟩
 all_goals first
  |(refine PSub.int ?_;have hw:winB p.fr p.to=true:=qB (by omega);unfold winF;rw[qK hw];omega)
  |(refine PSub.int ?_;have hw:winB p.fr p.to=true:=qB (by omega);unfold winT;rw[qK hw];done)
  |(refine PSub.int ?_;have hw:winB p.fr p.to=false:=qG (by omega);unfold winF;rw[qJ (by rw[hw];decide)];done)
  |(refine PSub.int ?_;have hw:winB p.fr p.to=false:=qG (by omega);unfold winT;rw[qJ (by rw[hw];decide)];done)
  |trace_state
theorem Z6h{l:List Key}{x:Key}:(anyN l.length fun i=>decide (l.getD i default=x))=decide (x∈l):=by
 rw[qt,any_in,Q0]
theorem Zry(m:Int):0<=ofDay m∧ofDay m<1440:=by
 unfold ofDay clampI;split
 ·decide
 split
 ·decide
 exact⟨Int.tmod_nonneg _ (by omega),Int.tmod_lt_of_pos _ (by omega)⟩
set_option maxHeartbeats 2000000 in
theorem Zlj(x:Trg)(s:ByteArray)(p:Hap)(hh:smallHp p):AC Tryz.prog 63 [.pv (.agg (cTrg x)),.pv (vstr s),.pv (.agg (cHap p))] [] (.pv (vbool (trB x s (normH p)))) []:=by
 have hn:=Zge p hh;have h1:(normH p).changed.length<=1048576:=hn.s.c;have h2:(normH p).events.length<=1048576:=hn.s.e;have hf:=hn.f;have ht:=hn.t;have hft:(normH p).to-(normH p).fr<=1440:=(Ziw p.fr p.to).2;have hlow:0<=(normH p).fr∨(normH p).to<(normH p).fr+1:=by
  show 0<=winF p.fr p.to∨winT p.fr p.to<winF p.fr p.to+1
  unfold winF winT winB;split<;>simp_all<;>omega
 have hc:=Zlk p hh;generalize normH p=w at *;refine AC.of_awp (T:=T) T_ok hm Tryz.call63 Tryz.func63 rfl rfl rfl ?_
 conv=>whnf
 repeat(any_goals((first|refine⟨QT ?_,QF ?_⟩<;>intro h<;>(try simp only[Q0,Q1,Q2,Q3,Q4,Q5,Q6,Q7,Q8,reduceCtorEq]at h)|refine .inl ⟨_,hc,?_⟩|refine .inl ⟨wrap64 (by omega),?_⟩)<;>conv=>whnf))
 ·have e:trB x s w=decide (x.key∈w.changed):=by unfold trB;rw[qK h]
  rw[e];refine loop_k (ι:=Nat) [1,3,7,14] [3,7] (fun k=>k<=w.changed.length∧(∀j,j<k->decide (w.changed.getD j default=x.key)=false)) (fun k=>w.changed.length-k) 0 (fun k=>[(8,.pv (vint k))]) (fun _=>[]) [] ⟨qe _,fun j h=>absurd h (by omega)⟩ ?_ (fun k hk=>?_)
  ·exact QD
  obtain⟨hkn,hinv⟩:=hk
  conv=>whnf
  repeat(any_goals((first|refine⟨QT ?_,QF ?_⟩<;>intro h<;>(try simp only[Q0,Q1,Q2,Q3,Q4,Q5,Q6,Q7,Q8,reduceCtorEq]at h)|refine QI ?_|refine QK ?_|refine .inl ⟨wrap64 (by omega),?_⟩)<;>conv=>whnf))
  ·exact PSub.lit_sb (by rw[<-Z6h,Z0a (k:=k) (by omega) ((key_eq _ _).symm.trans h)])
  ·refine⟨k+1,[],⟨by omega,?_⟩,by first|omega|(dsimp only;omega),?_⟩;rotate_left
   ·exact QD
   intro j hj
   by_cases e:j=k
   ·subst e;exact(key_eq _ _).symm.trans h
   exact hinv j (by omega)
  exact PSub.lit_sb (by rw[<-Z6h,Z0d fun j hj=>hinv j (by omega)])
 ·rename_i k1;have e:trB x s w=decide (eK x.event∈w.events):=by unfold trB;rw[qJ k1,qK h]
  rw[e];refine loop_k (ι:=Nat) [1,3,7,14] [3,7] (fun k=>k<=w.events.length∧(∀j,j<k->decide (w.events.getD j default=eK x.event)=false)) (fun k=>w.events.length-k) 0 (fun k=>[(9,.pv (vint k))]) (fun _=>[]) [] ⟨qe _,fun j h=>absurd h (by omega)⟩ ?_ (fun k hk=>?_)
  ·exact QD
  obtain⟨hkn,hinv⟩:=hk
  conv=>whnf
  repeat(any_goals((first|refine⟨QT ?_,QF ?_⟩<;>intro h<;>(try simp only[Q0,Q1,Q2,Q3,Q4,Q5,Q6,Q7,Q8,reduceCtorEq]at h)|refine QI ?_|refine QK ?_|refine .inl ⟨wrap64 (by omega),?_⟩)<;>conv=>whnf))
  ·exact PSub.lit_sb (by rw[<-Z6h,Z0a (k:=k) (by omega) ((key_eq _ _).symm.trans h)])
  ·refine⟨k+1,[],⟨by omega,?_⟩,by first|omega|(dsimp only;omega),?_⟩;rotate_left
   ·exact QD
   intro j hj
   by_cases e:j=k
   ·subst e;exact(key_eq _ _).symm.trans h
   exact hinv j (by omega)
  exact PSub.lit_sb (by rw[<-Z6h,Z0d fun j hj=>hinv j (by omega)])
 ·rename_i k1 k2;have e:trB x s w=strB w.fr w.to x.n x.m:=by unfold trB;rw[qJ k1,qJ k2,qK h]
  rw[e];refine loop_k (ι:=Nat) [1,3,7,14] [3,7] (fun k=>k<=(w.to-w.fr).toNat∧∀j,j<k->minB x.n x.m (w.fr+1+j)=false) (fun k=>(w.to-w.fr).toNat-k) 0 (fun k=>[(10,.pv (vint (w.fr+1+(k:Int))))]) (fun _=>[]) [] ⟨qe _,fun j h=>absurd h (by omega)⟩ ?_ (fun k hk=>?_)
  ·(repeat'(first|exact QC|refine qa ?_ ?_))
   all_goals exact PSub.int (by omega)
  obtain⟨hkn,hinv⟩:=hk
  conv=>whnf
  have hw:=Ziv (w.fr+1+(k:Int))
  repeat(any_goals((first|refine⟨QT ?_,QF ?_⟩<;>intro h<;>(try simp only[Q0,Q1,Q2,Q3,Q4,Q5,Q6,Q7,Q8,reduceCtorEq]at h)|refine .inl ⟨_,Zc0 (w.fr+1+(k:Int)),?_⟩|refine .inl ⟨_,Zc1 (w.fr+1+(k:Int)),?_⟩|refine QI ?_|refine QK ?_|refine .inl ⟨wrap64 (by omega),?_⟩)<;>conv=>whnf))
  ·have hm:minB x.n x.m (w.fr+1+(k:Int))=true:=by
    unfold minB;rw[qB (by assumption),Bool.true_and];exact qB h
   have hd:=Zry (w.fr+1+(k:Int));have hn2:ofDay (w.fr+1+(k:Int))=x.n:=by assumption
   refine PSub.lit_sb ?_;unfold strB;rw[qB (by omega),Z0a (k:=k) (by omega) hm];rfl
  ·have hm:minB x.n x.m (w.fr+1+(k:Int))=false:=by
    unfold minB;have:dayA x.m (weekday (w.fr+1+(k:Int)))=false:=qG h;rw[this,Bool.and_false]
   refine⟨k+1,[],⟨by omega,fun j hj=>?_⟩,by omega,?_⟩
   ·by_cases e:j=k
    ·subst e;exact hm
    exact hinv j (by omega)
   (repeat'(first|exact QC|refine qa ?_ ?_))
   all_goals exact PSub.int (by omega)
  ·have hm:minB x.n x.m (w.fr+1+(k:Int))=false:=by
    unfold minB;rw[qG h,Bool.false_and]
   refine⟨k+1,[],⟨by omega,fun j hj=>?_⟩,by omega,?_⟩
   ·by_cases e:j=k
    ·subst e;exact hm
    exact hinv j (by omega)
   (repeat'(first|exact QC|refine qa ?_ ?_))
   all_goals exact PSub.int (by omega)
  ·refine PSub.lit_sb ?_;unfold strB;rw[qG (by omega),Bool.false_and]
  ·refine PSub.lit_sb ?_;unfold strB;rw[qG (by omega),Bool.false_and]
  refine PSub.lit_sb ?_;unfold strB;rw[Z0d fun j hj=>hinv j (by omega),Bool.and_false]
 all_goals
  repeat(any_goals((first|refine .inl ⟨_,Z1a w.held s hn.s.h,?_⟩)<;>conv=>whnf))
 all_goals first
  |(refine PSub.sb ?_;unfold trB;simp[*,memS];done)
  |(refine PSub.lit_sb ?_;unfold trB;simp[*,memS];done)
  |trace_state
theorem Zli(r:Rul)(p:Hap)(ho:smallL r.on)(hh:smallHp p):AC Tryz.prog 34 [.pv (.agg (cRul r)),.pv (.agg (cHap p))] [] (.pv (vbool (anyB r p))) []:=by
 have ho:r.on.length<=1048576:=ho;unfold anyB;refine AC.of_awp (T:=T) T_ok hm Tryz.call34 Tryz.func34 rfl rfl rfl ?_
 conv=>whnf
 refine loop_k (ι:=Nat) [2,3] [2,3] (fun k=>k<=r.on.length∧(∀j,j<k->trB (r.on.getD j default) r.name (normH p)=false)) (fun k=>r.on.length-k) 0 (fun k=>[(5,.pv (vint k))]) (fun _=>[]) [] ⟨qe _,fun j h=>absurd h (by omega)⟩ ?_ (fun k hk=>?_)
 ·exact QD
 obtain⟨hkn,hinv⟩:=hk
 conv=>whnf
 repeat(any_goals((first|refine⟨QT ?_,QF ?_⟩<;>intro h<;>(try simp only[Q0,Q1,Q2,Q3,Q4,Q5,Q6,Q7,Q8,reduceCtorEq]at h)|refine .inl ⟨_,Zlj (r.on.getD k default) r.name p hh,?_⟩|refine QI ?_|refine QK ?_|refine .inl ⟨wrap64 (by omega),?_⟩)<;>conv=>whnf))
 ·exact PSub.lit_sb (by rw[Z0a (k:=k) (by omega) h])
 ·refine⟨k+1,[],⟨by omega,?_⟩,by first|omega|(dsimp only;omega),?_⟩;rotate_left
  ·exact QD
  intro j hj
  by_cases e2:j=k
  ·subst e2;exact h
  exact hinv j (by omega)
 exact PSub.lit_sb (by rw[Z0d fun j hj=>hinv j (by omega)])
theorem Zf7{l:List Write}{w:Write}{j:Nat}(hj:j<=l.length)(h1:∀i,j<=i->i<l.length->ordW w (l.getD i default)=true)(h2:j=0∨ordW w (l.getD (j-1) default)=false):insL l j w=insR ordW l w:=by
 obtain⟨p,q,e1,e2,e3,e4⟩:=Z75 (lt:=ordW) l w;have hjp:j=p.length:=by
  rcases Nat.lt_trichotomy j p.length with h|h|h
  ·exfalso;rcases List.eq_nil_or_concat p with e|⟨p',a,e⟩
   ·rw[e]at h;simp at h
   rw[List.concat_eq_append]at e;have ha:=e4 a p' e;have hpl:p.length=p'.length+1:=by rw[e];simp
   have h5:=h1 (p.length-1) (by omega) (by rw[e1,ql];omega);have h6:l.getD (p.length-1) default=a:=by
    rw[hpl,e1,e];simp[List.getD]
   rw[h6,ha]at h5;cases h5
  ·exact h
  exfalso;have h3:=h2.resolve_left (by omega);have hjl:j-1<l.length:=by omega
  have hm:l.getD (j-1) default∈q:=by
   have:l.getD (j-1) default=q[j-1-p.length]'(by rw[e1,ql]at hjl;omega):=by
    rw[Z03 _ _ hjl];simp only[e1];rw[List.getElem_append_right (by omega)]
   rw[this];exact qE _
  rw[e3 _ hm]at h3;cases h3
 rw[e2];unfold insL;rw[hjp,e1,List.take_left',List.drop_left']<;>rfl
set_option maxHeartbeats 1000000 in
theorem Z36(l:List Write)(w:Write)(hl:l.length<=1048576):AC Tryz.prog 69 [.pv (roL 10 cWrite l),.pv (.agg (cWrite w))] [] (.pv (roL 10 cWrite (insR ordW l w))) []:=by
 refine AC.of_awp (T:=T) T_ok hm Tryz.call69 Tryz.func69 rfl rfl rfl ?_
 conv=>whnf
 repeat(any_goals((first|refine QI ?_|refine QK ?_|refine .inl ⟨wrap64 (by omega),?_⟩)<;>conv=>whnf))
 refine loop_k (ι:=Nat) [] [] (fun j=>j<=l.length∧∀i,j<=i->i<l.length->ordW w (l.getD i default)=true) (fun j=>j) l.length (fun j=>[(5,.own 501),(6,.pv (vint j))]) (fun j=>[(501,rowL 10 cWrite (insL l j w))]) [(501,13)] ⟨qL _,fun i h1 h2=>absurd h2 (by omega)⟩ ?_ (fun j hj=>?_)
 ·rw[Zf4];(repeat'(first|exact QC|refine qa ?_ ?_))
  ·simp
  ·refine Z05 (fun i hi=>?_) ?_
   ·simp[-List.getD_eq_getElem?_getD,hi];exact PSubs.rfl
   simp[-List.getD_eq_getElem?_getD];exact PSubs.rfl
  conv=>whnf
  exact PSub.int (by omega)
 obtain⟨hjn,hinv⟩:=hj;have hil:=Z3g (x:=w) hjn;have hg:∀i,(insL l j w).getD i default=if i<j then l.getD i default else if i=j then w else l.getD (i-1) default:=fun i=>Z4j hjn
 have hxj:(insL l j w).getD j default=w:=by rw[hg,qJ (by omega),qK rfl]
 have hj1:((j:Int)-1).toNat=j-1:=by omega
 have hmj:0<j->(insL l j w).getD (j-1) default=l.getD (j-1) default:=fun h=>by rw[hg,qK (by omega)]
 conv=>whnf
 repeat(any_goals((first|refine⟨QT ?_,QF ?_⟩<;>intro h<;>(try simp only[Q0,Q1,Q2,Q3,Q4,Q5,Q6,Q7,Q8,reduceCtorEq]at h)|refine .inl ⟨_,Zlt ((insL l j w).getD j default) ((insL l j w).getD ((j:Int)-1).toNat default),?_⟩|refine QI ?_|refine QK ?_|refine .inl ⟨wrap64 (by omega),?_⟩)<;>conv=>whnf))
 ·have hpos:0<j:=by omega
  rw[hj1,hxj,hmj hpos]at h;refine⟨j-1,[],⟨by omega,fun i h1 h2=>?_⟩,by omega,?_⟩
  ·by_cases e:i=j-1
   ·subst e;exact h
   exact hinv i (by omega) h2
  have hil2:=Z3g (x:=w) (show j-1<=l.length by omega);(repeat'(first|exact QC|refine qa ?_ ?_))
  ·rw[hil2,hil]
  ·intro i hi;rw[<-Zfa hpos hjn];simp only[Q4,hj1];exact Z65 (by omega) (by omega) i
  exact PSub.int (by omega)
 ·have hpos:0<j:=by omega
  rw[hj1,hxj,hmj hpos]at h;rw[<-Zf7 hjn hinv (.inr h)];exact .rfl
 have hz:j=0:=by omega
 rw[<-Zf7 hjn hinv (.inl hz)];exact .rfl
theorem Zlw(s:Sco)(v:Vw)(x:Stp)(c:Cause)(i:Int)(hs:smallS s)(hv:smallV2 v):AC Tryz.prog 66 [.pv (.agg (cSco s)),.pv (.agg (cVw v)),.pv (.agg (cStp x)),.pv (.agg (cCause c)),.pv (vint i)] [] (.pv (roL 10 cWrite (setW s v x c i))) []:=by
 have hen:((findA s.home x.key).getD noAttr).enum.length<=1048576:=Z60 hs.1;refine AC.of_awp (T:=T) T_ok hm Tryz.call66 Tryz.func66 rfl rfl rfl ?_
 conv=>whnf
 repeat(any_goals((first|refine⟨QT ?_,QF ?_⟩<;>intro h<;>(try simp only[Q0,Q1,Q2,Q3,Q4,Q5,Q6,Q7,Q8,reduceCtorEq]at h)|refine .inl ⟨_,Z40 s.home x.key hs.1,?_⟩|refine .inl ⟨_,Z8g v x.expr hv,?_⟩|refine .inl ⟨_,Z35 ((findA s.home x.key).getD noAttr) (evlE v x.expr).1 hen,?_⟩|refine .inl ⟨_,Z34 ((findA s.home x.key).getD noAttr) (limX s v x) hen,?_⟩)<;>conv=>whnf))
 ·rw[set_no (fun y=>by rw[y.2.1]at h;cases h)];exact PSub.nil_ro _ _
 ·rw[set_no (fun y=>h y.2.2)];exact PSub.nil_ro _ _
 rw[Zhr (by assumption) (by simpa using h)];refine PSub.ro rfl (fun j hj=>?_);have:j=0:=by simpa using hj
 subst this;exact PSubs.rfl
theorem Zln(s:Scene)(c:Cause)(hs:s.items.length<=8388600):AC Tryz.prog 121 [.pv (.agg (cSce s)),.pv (.agg (cCause c))] [] (.own 0) [(0,rowL 10 cWrite (applyS s c s.items.length))]:=by
 refine AC.of_awp_own (T:=T) T_ok hm Tryz.call121 Tryz.func121 rfl rfl rfl ?_
 conv=>whnf
 refine loop_k (ι:=Nat) [2,3,9] [2,3] (fun k=>k<=s.items.length∧True) (fun k=>s.items.length-k) 0 (fun k=>[(5,.own 500),(10,.pv (vint k))]) (fun k=>[(500,rowL 10 cWrite (applyS s c k))]) [] ⟨qe _,trivial⟩ ?_ (fun k hk=>?_)
 ·(repeat'(first|exact QC|refine qa ?_ ?_));all_goals(first|(simp;done)|exact PSubs.rfl|skip)
 obtain⟨hkn,hinv⟩:=hk
 conv=>whnf
 have hlen:(applyS s c k).length=k:=by simp[applyS]
 repeat(any_goals((first|refine⟨QT ?_,QF ?_⟩<;>intro h<;>(try simp only[Q0,Q1,Q2,Q3,Q4,Q5,Q6,Q7,Q8,reduceCtorEq]at h)|refine QI ?_|refine QK ?_|refine .inl ⟨wrap64 (by omega),?_⟩)<;>conv=>whnf))
 ·refine⟨k+1,[(500,30)],⟨by omega,trivial⟩,by omega,?_⟩;rw[Z8x];(repeat'(first|exact QC|refine qa ?_ ?_))
  ·simp
  refine Z05 (fun i hi=>by simp only[qK hi];exact PSubs.rfl) (by simp only[qJ (qM _),Nat.sub_self];exact PSubs.rfl)
 have e:k=s.items.length:=by omega
 subst e;exact⟨rfl,fun i hi=>PSubs.rfl⟩
theorem Ztn{l:List Write}{i:Int}{k n:Nat}:∀j,j<n->PSubs (updAt (fun j=>cWrite (if j<k then atW i (l.getD j default)else l.getD j default)) k 9 [vint i] j) (cWrite (if j<k+1 then atW i (l.getD j default)else l.getD j default)):=by
 intro j hj
 by_cases e:j=k
 ·subst e;rw[Z19,qJ (qM _),qK (by omega)];exact PSubs.rfl
 rw[Z11 e]
 by_cases h:j<k
 ·rw[qK h,qK (by omega)];exact PSubs.rfl
 rw[qJ h,qJ (by omega)];exact PSubs.rfl
theorem Zrm{l:List Write}{i:Int}{j:Nat}(h:j<l.length):(l.map (atW i)).getD j default=atW i (l.getD j default):=by
 rw[Z03 _ _ (by rw[List.length_map];exact h),List.getElem_map,Z03 _ _ h]
set_option maxHeartbeats 1000000 in
theorem Zlv(s:Sco)(sc:List Scene)(x:Stp)(c:Cause)(i:Int)(hs:smallS s)(hsc:smallL sc)(hsi:∀i,i<sc.length->smallL (sc.getD i default).items):AC Tryz.prog 68 [.pv (.agg (cSco s)),.pv (roL 2 cSce sc),.pv (.agg (cStp x)),.pv (.agg (cCause c)),.pv (vint i)] [] (.pv (roL 10 cWrite (sceW s sc x c i))) []:=by
 have hit:=Zea (n:=x.name) hsi;have hit2:(findS sc x.name).items.length<=1048576:=hit;refine AC.of_awp (T:=T) T_ok hm Tryz.call68 Tryz.func68 rfl rfl rfl ?_
 conv=>whnf
 repeat(any_goals((first|refine⟨QT ?_,QF ?_⟩<;>intro h<;>(try simp only[Q0,Q1,Q2,Q3,Q4,Q5,Q6,Q7,Q8,reduceCtorEq]at h)|refine .inl ⟨_,Zlp sc x.name hsc,?_⟩|refine .inl ⟨_,Zlo s.home (findS sc x.name) hs.1 hit,?_⟩|refine .inr (.inl ⟨_,_,_,Zln (findS sc x.name) c (by omega),?_⟩))<;>conv=>whnf))
 ·rw[sce_no (fun y=>by simp[y.1]at h)];exact PSub.nil_ro _ _
 ·rw[sce_no (fun y=>h y.2)];exact PSub.nil_ro _ _
 have h1:sceAt sc x.name<sc.length:=by assumption
 have e:sceW s sc x c i=(applyS (findS sc x.name) c (findS sc x.name).items.length).map (atW i):=qK ⟨h1,by simpa using h⟩;rw[e];have hln:(applyS (findS sc x.name) c (findS sc x.name).items.length).length=(findS sc x.name).items.length:=by simp[applyS]
 generalize applyS (findS sc x.name) c (findS sc x.name).items.length=l at *;refine loop_k (ι:=Nat) [4,13] [] (fun k=>k<=l.length) (fun k=>l.length-k) 0 (fun k=>[(14,.pv (vint k))]) (fun k=>[(33,.row 10 l.length fun j=>cWrite (if j<k then atW i (l.getD j default)else l.getD j default))]) [] (qe _) ?_ (fun k hk=>?_)
 ·(repeat'(first|exact QC|refine qa ?_ ?_))
  all_goals(intro j hj;exact PSubs.rfl)
 conv=>whnf
 repeat(any_goals((first|refine⟨QT ?_,QF ?_⟩<;>intro h<;>(try simp only[Q0,Q1,Q2,Q3,Q4,Q5,Q6,Q7,Q8,reduceCtorEq]at h)|refine QI ?_|refine .inl ⟨wrap64 (by omega),?_⟩)<;>conv=>whnf))
 ·refine⟨k+1,[],by omega,by omega,?_⟩;(repeat'(first|exact QC|refine qa ?_ ?_))
  all_goals exact Ztn
 have e2:k=l.length:=by omega
 subst e2;refine PSub.ro (by rw[List.length_map]) (fun j hj=>?_);rw[Zrm hj,qK hj];exact PSubs.rfl
set_option maxHeartbeats 4000000 in
theorem Zlu(s:Sco)(v:Vw)(x:Stp)(c:Cause)(i:Int)(hs:smallS s)(hv:smallV2 v):AC Tryz.prog 67 [.pv (.agg (cSco s)),.pv (.agg (cVw v)),.pv (.agg (cStp x)),.pv (.agg (cCause c)),.pv (vint i)] [] (.pv (roL 10 cWrite (callW s v x c i))) []:=by
 have hsk:smallK (cluX s x):=Zb7 hs.1;have e0:callW s v x c i=chgTo v x (cluX s x) c i (aftL v x (cluX s x)).length:=rfl;rw[e0];have hp:parX v x (cluX s x)=if(cmdOf (cluX s x).commands x.name).param.kind≠0 then(evlE v x.expr).1 else noVal:=rfl
 have cP:=Z6e s.home x.key.dev x.key.cluster hs.1;change AC Tryz.prog _ _ _ (.pv (.tup [.agg (cClu (cluX s x)),_])) _ at cP;refine AC.of_awp (T:=T) T_ok hm Tryz.call67 Tryz.func67 rfl rfl rfl ?_
 conv=>whnf
 repeat(any_goals((first|refine⟨QT ?_,QF ?_⟩<;>intro h<;>(try simp only[Q0,Q1,Q2,Q3,Q4,Q5,Q6,Q7,Q8,reduceCtorEq]at h)|refine .inl ⟨_,cP,?_⟩|refine .inl ⟨_,Z8a (cluX s x) x.name hsk,?_⟩|refine .inl ⟨_,Z8g v x.expr hv,?_⟩)<;>conv=>whnf))
 ·rw[qK h]at hp;generalize cluX s x=k at *;generalize hn:k.attrs.length=n at *;have hna:n<=1048576:=by have:=hsk.1;rw[<-hn];exact this
  have hkl:=Z8q v x k;have hdz:decide (0<n)=true↔0<n:=decide_eq_true_iff;refine loop_k (ι:=Bool×Nat) [4,6,7,8,11,15] [6,7,8,11,15] (fun y=>y.2<=n∧(y.1=true↔y.2<n)) (fun y=>n-y.2) (decide (0<n),0) (fun y=>match y.1 with
    |true=>[(16,.own 500),(17,.pv (vint y.2))]
    |false=>[(16,.pv (roL 3 cVal (bfrL v.items x.key.dev k n))),(17,.pv (vint y.2))])
   (fun y=>match y.1 with
    |true=>[(500,rowL 3 cVal (bfrL v.items x.key.dev k y.2))]
    |false=>[]) [] ⟨qe _,hdz⟩ ?_ (fun y hk=>?_)
  ·by_cases hz:0<n
   ·rw[show decide (0<n)=true from decide_eq_true hz];dsimp only
    all_goals exact QD
   ·rw[show decide (0<n)=false from decide_eq_false hz];dsimp only;(repeat'(first|exact QC|refine And.intro ?_ ?_))
    all_goals exact PSub.nilL (List.eq_nil_of_length_eq_zero (by rw[Z1b];omega))
  obtain⟨b,q⟩:=y;obtain⟨hqn,hb⟩:=hk;dsimp only at hqn hb;cases b with
  |true=>
   have hq:q<n:=hb.1 rfl;have hbl:=Z1b v.items x.key.dev k q;have hbs:=Z96 v.items x.key.dev k q;rw[Z95]at hbs;have hen:(k.attrs.getD q default).enum.length<=1048576:=hsk.2.1 q;dsimp only
   conv=>whnf
   refine⟨fun h=>?_,fun h=>absurd (of_decide_eq_false h) (by omega)⟩
   conv=>whnf
   repeat(any_goals((first|refine⟨QT ?_,QF ?_⟩<;>intro h<;>(try simp only[Q0,Q1,Q2,Q3,Q4,Q5,Q6,Q7,Q8,reduceCtorEq]at h)|refine .inl ⟨_,Zc9 v.items (keyX x.key.dev k q) hv.1,?_⟩|refine .inl ⟨_,Zc3 (k.attrs.getD q default) hen,?_⟩|refine QI ?_|refine QK ?_|refine .inl ⟨wrap64 (by omega),?_⟩)<;>conv=>whnf))
   all_goals
    first|rw[qJ h]at hbs|rw[qK h]at hbs
    by_cases hlast:q+1<n
    ·refine⟨(true,q+1),[(500,93)],⟨by dsimp only;omega,by simp;omega⟩,by dsimp only;omega,?_⟩;dsimp only;rw[hbs];(repeat'(first|exact QC|refine And.intro ?_ ?_))
     ·simp
     ·refine Z05 (fun i hi=>by simp only[qK hi];exact PSubs.rfl) (by simp only[qJ (qM _),Nat.sub_self];exact PSubs.rfl)
    ·have hn1:n=q+1:=by omega
     have hall:roL 3 cVal (bfrL v.items x.key.dev k n)=roL 3 cVal (bfrL v.items x.key.dev k (q+1)):=by rw[hn1]
     refine⟨(false,q+1),[],⟨by dsimp only;omega,by simp;omega⟩,by dsimp only;omega,?_⟩;dsimp only;rw[hall,hbs];(repeat'(first|exact QC|refine And.intro ?_ ?_))
     all_goals
      conv=>whnf
      refine PSub.ro (by simp) (fun i hi=>?_);revert i;rw[show(bfrL v.items x.key.dev k q).length+1=(bfrL v.items x.key.dev k q ++ [_]).length from by simp];refine Z05 (fun i hi=>by simp only[qK hi];exact PSubs.rfl) (by simp only[qJ (qM _),Nat.sub_self];exact PSubs.rfl)
  |false=>
   have hq:q=n:=by
    have:¬q<n:=fun h=>by have:=hb.2 h;cases this
    omega
   subst hq;dsimp only
   conv=>whnf
   refine⟨fun h=>absurd (qC h) (by omega),fun h=>?_⟩
   conv=>whnf
   have hsm:smallL (bfrL v.items x.key.dev k q):=by show _<=_;rw[Z1b];exact hna
   have cA:=Zc4 k x.name (parX v x k) (bfrL v.items x.key.dev k q) hsk hsm;have hz:applyE k x.name (parX v x k) (bfrL v.items x.key.dev k q)≠0->aftL v x k = []:=fun h=>by unfold aftL applyL;rw[hn,qJ h]
   rw[show applyL k x.name (parX v x k) (bfrL v.items x.key.dev k q)=aftL v x k from by unfold aftL;rw[hn]]at cA;generalize applyE k x.name (parX v x k) (bfrL v.items x.key.dev k q)=ae at *;rw[hp]at cA;have hcw:∀j,chgW v x k c i j=if(aftL v x k).getD j default≠(bfrL v.items x.key.dev k q).getD j default then [⟨keyX x.key.dev k j,(aftL v x k).getD j default,c,i⟩]else []:=fun j=>by unfold chgW;rw[hn]
   generalize hL:aftL v x k=L at *
   repeat(any_goals((first|refine .inl ⟨_,cA,?_⟩)<;>conv=>whnf))
   refine loop_k (ι:=Nat) [4,7,8,11,16,20,21] [7,8,11] (fun j=>j<=L.length) (fun j=>L.length-j) 0 (fun j=>[(22,.own 502),(23,.pv (vint j))]) (fun j=>[(502,rowL 10 cWrite (chgTo v x k c i j))]) [] (qe _) ?_ (fun j hj=>?_)
   ·(repeat'(first|exact QC|refine qa ?_ ?_))
    all_goals(intro i hi;exact absurd hi (by simp[chgTo]))
   have hcl:=Z5c v x k c i j;have hcs:=Z6k v x k c i j;rw[hcw]at hcs;have hbl:=Z1b v.items x.key.dev k q
   conv=>whnf
   repeat(any_goals((first|refine⟨QT ?_,QF ?_⟩<;>intro h<;>(try simp only[Q0,Q1,Q2,Q3,Q4,Q5,Q6,Q7,Q8,reduceCtorEq]at h)|refine QI ?_|refine QK ?_|refine .inl ⟨wrap64 (by omega),?_⟩)<;>conv=>whnf))
   ·have e:=of_decide_eq_false ((Z2t _ _).symm.trans h);rw[qK e]at hcs;refine⟨j+1,[(502,143)],by omega,by omega,?_⟩;rw[hcs];(repeat'(first|exact QC|refine qa ?_ ?_))
    ·simp
    ·refine Z05 (fun i hi=>by simp only[qK hi];exact PSubs.rfl) (by simp only[qJ (qM _),Nat.sub_self];exact PSubs.rfl)
   ·have e:=qC ((Z2t _ _).symm.trans h);rw[qJ (fun y=>y e),List.append_nil]at hcs;refine⟨j+1,[],by omega,by omega,?_⟩;rw[hcs];(repeat'(first|exact QC|refine qa ?_ ?_))
    all_goals(intro i hi;exact PSubs.rfl)
   ·exfalso;have h0:L.length=0:=by rw[hz h];rfl
    omega
   ·have e:j=L.length:=by omega
    subst e;exact .rfl
 ·rw[qJ (fun y=>y h)]at hp;generalize cluX s x=k at *;generalize hn:k.attrs.length=n at *;have hna:n<=1048576:=by have:=hsk.1;rw[<-hn];exact this
  have hkl:=Z8q v x k;have hdz:decide (0<n)=true↔0<n:=decide_eq_true_iff;refine loop_k (ι:=Bool×Nat) [4,6,7,8,11,15] [6,7,8,11,15] (fun y=>y.2<=n∧(y.1=true↔y.2<n)) (fun y=>n-y.2) (decide (0<n),0) (fun y=>match y.1 with
    |true=>[(16,.own 500),(17,.pv (vint y.2))]
    |false=>[(16,.pv (roL 3 cVal (bfrL v.items x.key.dev k n))),(17,.pv (vint y.2))])
   (fun y=>match y.1 with
    |true=>[(500,rowL 3 cVal (bfrL v.items x.key.dev k y.2))]
    |false=>[]) [] ⟨qe _,hdz⟩ ?_ (fun y hk=>?_)
  ·by_cases hz:0<n
   ·rw[show decide (0<n)=true from decide_eq_true hz];dsimp only
    all_goals exact QD
   ·rw[show decide (0<n)=false from decide_eq_false hz];dsimp only;(repeat'(first|exact QC|refine And.intro ?_ ?_))
    all_goals exact PSub.nilL (List.eq_nil_of_length_eq_zero (by rw[Z1b];omega))
  obtain⟨b,q⟩:=y;obtain⟨hqn,hb⟩:=hk;dsimp only at hqn hb;cases b with
  |true=>
   have hq:q<n:=hb.1 rfl;have hbl:=Z1b v.items x.key.dev k q;have hbs:=Z96 v.items x.key.dev k q;rw[Z95]at hbs;have hen:(k.attrs.getD q default).enum.length<=1048576:=hsk.2.1 q;dsimp only
   conv=>whnf
   refine⟨fun h=>?_,fun h=>absurd (of_decide_eq_false h) (by omega)⟩
   conv=>whnf
   repeat(any_goals((first|refine⟨QT ?_,QF ?_⟩<;>intro h<;>(try simp only[Q0,Q1,Q2,Q3,Q4,Q5,Q6,Q7,Q8,reduceCtorEq]at h)|refine .inl ⟨_,Zc9 v.items (keyX x.key.dev k q) hv.1,?_⟩|refine .inl ⟨_,Zc3 (k.attrs.getD q default) hen,?_⟩|refine QI ?_|refine QK ?_|refine .inl ⟨wrap64 (by omega),?_⟩)<;>conv=>whnf))
   all_goals
    first|rw[qJ h]at hbs|rw[qK h]at hbs
    by_cases hlast:q+1<n
    ·refine⟨(true,q+1),[(500,93)],⟨by dsimp only;omega,by simp;omega⟩,by dsimp only;omega,?_⟩;dsimp only;rw[hbs];(repeat'(first|exact QC|refine And.intro ?_ ?_))
     ·simp
     ·refine Z05 (fun i hi=>by simp only[qK hi];exact PSubs.rfl) (by simp only[qJ (qM _),Nat.sub_self];exact PSubs.rfl)
    ·have hn1:n=q+1:=by omega
     have hall:roL 3 cVal (bfrL v.items x.key.dev k n)=roL 3 cVal (bfrL v.items x.key.dev k (q+1)):=by rw[hn1]
     refine⟨(false,q+1),[],⟨by dsimp only;omega,by simp;omega⟩,by dsimp only;omega,?_⟩;dsimp only;rw[hall,hbs];(repeat'(first|exact QC|refine And.intro ?_ ?_))
     all_goals
      conv=>whnf
      refine PSub.ro (by simp) (fun i hi=>?_);revert i;rw[show(bfrL v.items x.key.dev k q).length+1=(bfrL v.items x.key.dev k q ++ [_]).length from by simp];refine Z05 (fun i hi=>by simp only[qK hi];exact PSubs.rfl) (by simp only[qJ (qM _),Nat.sub_self];exact PSubs.rfl)
  |false=>
   have hq:q=n:=by
    have:¬q<n:=fun h=>by have:=hb.2 h;cases this
    omega
   subst hq;dsimp only
   conv=>whnf
   refine⟨fun h=>absurd (qC h) (by omega),fun h=>?_⟩
   conv=>whnf
   have hsm:smallL (bfrL v.items x.key.dev k q):=by show _<=_;rw[Z1b];exact hna
   have cA:=Zc4 k x.name (parX v x k) (bfrL v.items x.key.dev k q) hsk hsm;have hz:applyE k x.name (parX v x k) (bfrL v.items x.key.dev k q)≠0->aftL v x k = []:=fun h=>by unfold aftL applyL;rw[hn,qJ h]
   rw[show applyL k x.name (parX v x k) (bfrL v.items x.key.dev k q)=aftL v x k from by unfold aftL;rw[hn]]at cA;generalize applyE k x.name (parX v x k) (bfrL v.items x.key.dev k q)=ae at *;rw[hp]at cA;have hcw:∀j,chgW v x k c i j=if(aftL v x k).getD j default≠(bfrL v.items x.key.dev k q).getD j default then [⟨keyX x.key.dev k j,(aftL v x k).getD j default,c,i⟩]else []:=fun j=>by unfold chgW;rw[hn]
   generalize hL:aftL v x k=L at *
   repeat(any_goals((first|refine .inl ⟨_,cA,?_⟩)<;>conv=>whnf))
   refine loop_k (ι:=Nat) [4,7,8,11,16,20,21] [7,8,11] (fun j=>j<=L.length) (fun j=>L.length-j) 0 (fun j=>[(22,.own 502),(23,.pv (vint j))]) (fun j=>[(502,rowL 10 cWrite (chgTo v x k c i j))]) [] (qe _) ?_ (fun j hj=>?_)
   ·(repeat'(first|exact QC|refine qa ?_ ?_))
    all_goals(intro i hi;exact absurd hi (by simp[chgTo]))
   have hcl:=Z5c v x k c i j;have hcs:=Z6k v x k c i j;rw[hcw]at hcs;have hbl:=Z1b v.items x.key.dev k q
   conv=>whnf
   repeat(any_goals((first|refine⟨QT ?_,QF ?_⟩<;>intro h<;>(try simp only[Q0,Q1,Q2,Q3,Q4,Q5,Q6,Q7,Q8,reduceCtorEq]at h)|refine QI ?_|refine QK ?_|refine .inl ⟨wrap64 (by omega),?_⟩)<;>conv=>whnf))
   ·have e:=of_decide_eq_false ((Z2t _ _).symm.trans h);rw[qK e]at hcs;refine⟨j+1,[(502,143)],by omega,by omega,?_⟩;rw[hcs];(repeat'(first|exact QC|refine qa ?_ ?_))
    ·simp
    ·refine Z05 (fun i hi=>by simp only[qK hi];exact PSubs.rfl) (by simp only[qJ (qM _),Nat.sub_self];exact PSubs.rfl)
   ·have e:=qC ((Z2t _ _).symm.trans h);rw[qJ (fun y=>y e),List.append_nil]at hcs;refine⟨j+1,[],by omega,by omega,?_⟩;rw[hcs];(repeat'(first|exact QC|refine qa ?_ ?_))
    all_goals(intro i hi;exact PSubs.rfl)
   ·exfalso;have h0:L.length=0:=by rw[hz h];rfl
    omega
   ·have e:j=L.length:=by omega
    subst e;exact .rfl
theorem Z4s{s:Sco}{l:List Rul}(h:runE s l=0):scoE s=0∧(rulesE s l).2=0:=by
 unfold runE at h
 split at h
 ·rename_i h1;exact absurd h h1
 rename_i h1;exact⟨by simpa using h1,h⟩
end Go.Abs
