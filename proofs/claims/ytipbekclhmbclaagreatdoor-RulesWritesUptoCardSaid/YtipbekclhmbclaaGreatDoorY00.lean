/- YtipbekclhmbclaaGreatDoorY00: walks and contracts. -/
import Derived.Test.YtipbekclhmbclaaGreatDoorX09
import Derived.Laws.RangeString

set_option linter.unusedVariables false
set_option linter.unusedSimpArgs false
set_option linter.unusedSectionVars false

namespace Go.Abs
open Go.Proofs
theorem Z1a(l:List ByteArray)(x:ByteArray)(hl:l.length<=1048576):AC Tryz.prog 18 [.pv (roL 1 cstr l),.pv (vstr x)] [] (.pv (vint (idxOf l x))) []:=by
 refine AC.of_awp (T:=T) T_ok hm Tryz.call18 Tryz.func18 rfl rfl rfl ?_
 conv=>whnf
 refine⟨Nat,fun k=>k<=l.length∧∀j,j<k->l.getD j default≠x,fun k=>⟨[(0,.pv (roL 1 cstr l)),(1,.pv (vstr x)),(5,.pv (vint k))],[]⟩,fun k=>l.length-k,0,[],⟨qe _,fun j h=>absurd h (by omega)⟩,⟨.rfl,.rfl,.rfl⟩,fun k hk=>?_⟩
 conv=>whnf
 refine⟨fun h=>?_,fun h=>?_⟩
 ·simp only[Q0]at h;refine⟨by omega,?_⟩
  conv=>whnf
  refine⟨fun h2=>?_,fun h2=>?_⟩
  ·conv=>whnf
   simp only[Q0]at h2;exact PSub.int (by rw[Z4i (k:=k) (by omega) (by simpa using h2) hk.2])
  conv=>whnf
  refine .inl ⟨wrap64 (by omega),?_⟩
  conv=>whnf
  simp only[decide_eq_false_iff_not]at h2;refine⟨k+1,[],⟨by omega,fun j hj=>?_⟩,by dsimp only;omega,.rfl,.rfl,.rfl⟩
  by_cases e:j=k
  ·subst e;simpa using h2
  exact hk.2 j (by omega)
 conv=>whnf
 simp only[Q1]at h;exact PSub.int (by rw[Zew fun j hj=>hk.2 j (by omega)])
theorem Z0p(s:ByteArray):AC Tryz.prog 75 [.pv (vstr s)] [] (.pv (vbool (validName s))) []:=by
 refine AC.of_awp (T:=T) T_ok hm Tryz.call75 Tryz.func75 rfl rfl rfl ?_
 conv=>whnf
 refine⟨fun h=>?_,fun h=>?_⟩
 ·conv=>whnf
  simp only[Q0]at h;exact PSub.lit_sb (by symm;simp[validName];omega)
 conv=>whnf
 refine⟨fun h2=>?_,fun h2=>?_⟩
 ·conv=>whnf
  simp only[Q0]at h2;exact PSub.lit_sb (by symm;simp[validName];omega)
 conv=>whnf
 simp only[Q1]at h h2;refine⟨Nat,fun k=>k<=s.size∧∀j,j<k->letterOk j (byteAt s j)=true,fun k=>⟨[(0,.pv (vstr s)),(3,.pv (vint k))],[]⟩,fun k=>s.size-k,0,[],⟨qe _,fun j h=>absurd h (by omega)⟩,⟨.rfl,.rfl⟩,fun k hk=>?_⟩
 conv=>whnf
 refine⟨fun h3=>?_,fun h3=>?_⟩
 ·conv=>whnf
  simp only[Q0]at h3;refine⟨by omega,?_⟩
  conv=>whnf
  have hb:∀j,j<k->letterOk j (byteAt s j)=true:=hk.2;have hkl:=hk.1;clear hk;have hkn:(k:Int).toNat=k:=rfl;simp only[hkn]
  iterate 9 (all_goals first|(refine⟨fun h=>?_,fun h=>?_⟩<;>(conv=>whnf))|skip)
  all_goals simp only[Q0,Q1,Q2,Q3,Q4]at *
  all_goals first
   |contradiction
   |exact PSub.lit_sb (Zir (k:=k) (by omega) (by omega))
   |(refine .inl ⟨wrap64 (by omega),?_⟩
     conv=>whnf
     refine⟨k+1,[],⟨by omega,fun j hj=>?_⟩,by omega,.rfl,.rfl⟩
     by_cases e:j=k
     ·subst e;exact letterOk_iff.2 (by omega)
     ·exact hb j (by omega))
 ·conv=>whnf
  simp only[Q1]at h3;exact PSub.lit_sb (by symm;rw[validName_iff];exact⟨by omega,by omega,fun i hi=>hk.2 i (by omega)⟩)
set_option maxRecDepth 10000
theorem Z89(v:Val):AC Tryz.prog 45 [.pv (.agg (cVal v))] [] (.pv (vint (valE v))) []:=by
 refine AC.of_awp (T:=T) T_ok hm Tryz.call45 Tryz.func45 rfl rfl rfl ?_
 conv=>whnf
 iterate 14 (all_goals first|(refine⟨fun h=>?_,fun h=>?_⟩<;>(conv=>whnf))|skip)
 all_goals simp only[Q0,Q1,Q2,Q3]at *
 all_goals first
  |contradiction
  |exact PSub.int (by simp only[valE,inRange,qd,Q1];(repeat' split)<;>first|rfl|omega|(simp_all;done)|(simp_all;omega))
  |trace_state
theorem Zkk(l:List ByteArray)(n:Nat)(x:ByteArray)(hl:n<=1048576):AC Tryz.prog 76 [.pv (.ro 1 n fun i=>cstr (l.getD i default)),.pv (vstr x)] [] (.pv (vbool (memN l n x))) []:=by
 refine AC.of_awp (T:=T) T_ok hm Tryz.call76 Tryz.func76 rfl rfl rfl ?_
 conv=>whnf
 refine⟨Nat,fun k=>k<=n∧∀j,j<k->l.getD j default≠x,fun k=>⟨[(0,.pv (.ro 1 n fun i=>cstr (l.getD i default))),(1,.pv (vstr x)),(5,.pv (vint k))],[]⟩,fun k=>n-k,0,[],⟨qe _,fun j h=>absurd h (by omega)⟩,⟨.rfl,.rfl,.rfl⟩,fun k hk=>?_⟩
 conv=>whnf
 refine⟨fun h=>?_,fun h=>?_⟩
 ·simp only[Q0]at h;refine⟨by omega,?_⟩
  conv=>whnf
  refine⟨fun h2=>?_,fun h2=>?_⟩
  ·conv=>whnf
   simp only[Q0]at h2;exact PSub.lit_sb (Z4m (k:=k) (by omega) (by simpa using h2)).symm
  conv=>whnf
  refine .inl ⟨wrap64 (by omega),?_⟩
  conv=>whnf
  simp only[decide_eq_false_iff_not]at h2;refine⟨k+1,[],⟨by omega,fun j hj=>?_⟩,by dsimp only;omega,.rfl,.rfl,.rfl⟩
  by_cases e:j=k
  ·subst e;simpa using h2
  exact hk.2 j (by omega)
 conv=>whnf
 simp only[Q1]at h;exact PSub.lit_sb (Z7d fun j hj=>hk.2 j (by omega)).symm
theorem Z52(a:Attr)(hl:a.enum.length<=1048576):AC Tryz.prog 44 [.pv (.agg (cAttr a))] [] (.pv (vint (defE a))) []:=by
 refine AC.of_awp (T:=T) T_ok hm Tryz.call44 Tryz.func44 rfl rfl rfl ?_
 conv=>whnf
 refine .inl ⟨_,Z0p _,?_⟩
 conv=>whnf
 refine⟨fun h=>?_,fun h=>?_⟩
 ·conv=>whnf
  simp only[Q2]at h;exact PSub.int (by rw[defE,qK h])
 conv=>whnf
 simp only[Q3]at h;have h:¬validName a.name=false:=by rw[h];decide
 have hk:a.kind<1∨4<a.kind->PSub (ofConst (.int .i64 7)) (vint (defE a)):=fun hh=>PSub.int (by rw[defE,qJ h,qK hh])
 refine⟨fun h2=>?_,fun h2=>?_⟩
 ·conv=>whnf
  simp only[Q0]at h2;exact hk (.inl h2)
 conv=>whnf
 refine⟨fun h3=>?_,fun h3=>?_⟩
 ·conv=>whnf
  simp only[Q0]at h3;exact hk (.inr h3)
 conv=>whnf
 simp only[Q1]at h2 h3;have hk2:¬(a.kind<1∨4<a.kind):=by omega
 have tail:∀(hq:¬(a.kind=2∧(inRange a.min=false∨inRange a.max=false∨a.max<a.min))) (hq2:¬(a.kind≠2∧(a.min≠0∨a.max≠0))),defE a=if a.kind=3 then membersE a.enum else if 0<a.enum.length then 4 else 0:=fun hq hq2=>by
  rw[defE,qJ h,qJ hk2,qJ hq,qJ hq2]
 have hin:∀n,inRange n=false↔¬(-1099511627776<=n∧n<=1099511627776):=fun n=>by
  rw[<-Bool.not_eq_true,inRange,qc,Q0,Q0]
 refine⟨fun h4=>?_,fun h4=>?_⟩
 ·conv=>whnf
  simp only[Q0]at h4;have bad:(a.min < -1099511627776∨1099511627776<a.max∨a.max<a.min)->PSub (ofConst (.int .i64 2)) (vint (defE a)):=fun hh=>PSub.int (by rw[defE,qJ h,qJ hk2,qK ⟨h4,by rw[hin,hin];omega⟩])
  refine⟨fun h5=>?_,fun h5=>?_⟩
  ·conv=>whnf
   simp only[Q0]at h5;exact bad (.inl h5)
  conv=>whnf
  refine⟨fun h6=>?_,fun h6=>?_⟩
  ·conv=>whnf
   simp only[Q0]at h6;exact bad (.inr (.inl h6))
  conv=>whnf
  refine⟨fun h7=>?_,fun h7=>?_⟩
  ·conv=>whnf
   simp only[Q0]at h7;exact bad (.inr (.inr h7))
  conv=>whnf
  simp only[Q1]at h5 h6 h7;have hd:=tail (by rw[hin,hin];omega) (by omega);rw[qJ (by omega)]at hd;rw[hd];refine⟨fun h8=>?_,fun h8=>?_⟩
  ·conv=>whnf
   refine⟨fun h9=>?_,fun h9=>?_⟩
   ·conv=>whnf
    simp only[Q0]at h9;exact PSub.int (by rw[qK (by omega)])
   conv=>whnf
   simp only[Q1]at h9;exact PSub.int (by rw[qJ (by omega)])
  simp only[Q3,Q0]at h8;omega
 conv=>whnf
 simp only[Q1]at h4;have bad:(a.min≠0∨a.max≠0)->PSub (ofConst (.int .i64 2)) (vint (defE a)):=fun hh=>PSub.int (by rw[defE,qJ h,qJ hk2,qJ (fun x=>h4 x.1),qK ⟨h4,hh⟩])
 refine⟨fun h5=>?_,fun h5=>?_⟩
 ·conv=>whnf
  simp only[Q2,Q1]at h5;exact bad (.inl h5)
 conv=>whnf
 refine⟨fun h6=>?_,fun h6=>?_⟩
 ·conv=>whnf
  simp only[Q2,Q1]at h6;exact bad (.inr h6)
 conv=>whnf
 simp only[Q3,Q0]at h5 h6;have hd:=tail (fun x=>h4 x.1) (by omega);rw[hd];refine⟨fun h8=>?_,fun h8=>?_⟩
 ·conv=>whnf
  simp only[Q2,Q1]at h8;rw[qJ h8];refine⟨fun h9=>?_,fun h9=>?_⟩
  ·conv=>whnf
   simp only[Q0]at h9;exact PSub.int (by rw[qK (by omega)])
  conv=>whnf
  simp only[Q1]at h9;exact PSub.int (by rw[qJ (by omega)])
 conv=>whnf
 simp only[Q3,Q0]at h8;rw[qK h8];refine⟨fun h=>?_,fun h=>?_⟩
 ·conv=>whnf
  simp only[Q0]at h;exact PSub.int (by rw[membersE,qK (by omega)])
 conv=>whnf
 refine⟨fun h9=>?_,fun h9=>?_⟩
 ·conv=>whnf
  simp only[Q0]at h9;exact PSub.int (by rw[membersE,qK (by omega)])
 conv=>whnf
 simp only[Q1]at h h9;have e0:membersE a.enum=firstE a.enum.length fun i=>if validName (a.enum.getD i default)=false then 10 else if idxOf a.enum (a.enum.getD i default)<i then 9 else 0:=by rw[membersE,qJ (by omega)]
 rw[e0];generalize hf:(fun i=>if validName (a.enum.getD i default)=false then(10:Int)else if idxOf a.enum (a.enum.getD i default)<(i:Int)then 9 else 0)=f;have hfi:∀i,f i=if validName (a.enum.getD i default)=false then(10:Int)else if idxOf a.enum (a.enum.getD i default)<(i:Int)then 9 else 0:=fun i=>by rw[<-hf]
 refine⟨Nat,fun k=>k<=a.enum.length∧∀j,j<k->f j=0,fun k=>⟨[(1,.ptr 1 0),(3,.pv (vint k))],[(1,.pbox (cAttr a))]⟩,fun k=>a.enum.length-k,0,[],⟨qe _,fun j h=>absurd h (by omega)⟩,⟨⟨PSubs.rfl,trivial⟩,rfl,.rfl⟩,fun k hk=>?_⟩
 conv=>whnf
 refine⟨fun h3=>?_,fun h3=>?_⟩
 ·conv=>whnf
  simp only[Q0]at h3;refine⟨by omega,?_⟩
  conv=>whnf
  refine .inl ⟨_,Z0p _,?_⟩
  conv=>whnf
  have hfk:=hfi k;refine⟨fun h4=>?_,fun h4=>?_⟩
  ·conv=>whnf
   simp only[Q2,Q4]at h4;rw[qK h4]at hfk;exact PSub.int (by rw[Z06 (k:=k) (by omega) (by rw[hfk];decide) hk.2,hfk])
  conv=>whnf
  simp only[Q3,Q4]at h4;rw[qJ (by rw[h4];decide)]at hfk;refine⟨by kernel_rfl,?_⟩
  conv=>whnf
  refine⟨by omega,?_⟩
  conv=>whnf
  refine⟨by omega,?_⟩
  conv=>whnf
  refine .inl ⟨_,Zkk a.enum k _ (by omega),?_⟩
  conv=>whnf
  refine⟨by kernel_rfl,?_⟩
  conv=>whnf
  refine⟨fun h5=>?_,fun h5=>?_⟩
  ·conv=>whnf
   rw[qK ((Z5h (by omega)).2 h5)]at hfk;exact PSub.int (by rw[Z06 (k:=k) (by omega) (by rw[hfk];decide) hk.2,hfk])
  conv=>whnf
  simp only[Q4]at h5;rw[qJ (fun x=>by rw[(Z5h (by omega)).1 x]at h5;cases h5)]at hfk;refine .inl ⟨wrap64 (by omega),?_⟩
  conv=>whnf
  refine⟨k+1,[],⟨by omega,fun j hj=>?_⟩,by dsimp only;omega,⟨PSubs.rfl,trivial⟩,rfl,.rfl⟩
  by_cases e:j=k
  ·subst e;exact hfk
  exact hk.2 j (by omega)
 conv=>whnf
 simp only[Q1]at h3;exact PSub.int (by rw[Z0c fun j hj=>hk.2 j (by omega)])
theorem Z34(a:Attr)(v:Val)(hl:a.enum.length<=1048576):AC Tryz.prog 20 [.pv (.agg (cAttr a)),.pv (.agg (cVal v))] [] (.pv (vint (fitsE a v))) []:=by
 refine AC.of_awp (T:=T) T_ok hm Tryz.call20 Tryz.func20 rfl rfl rfl ?_
 conv=>whnf
 iterate 14 (all_goals first|(refine⟨fun h=>?_,fun h=>?_⟩<;>(conv=>whnf))|(refine .inl ⟨_,Z52 a hl,?_⟩;conv=>whnf)|(refine .inl ⟨_,Z89 v,?_⟩;conv=>whnf)|skip)
 all_goals simp only[Q0,Q1,Q2,Q3]at *
 all_goals first
  |contradiction
  |exact PSub.int (by simp only[fitsE];(repeat' split)<;>first|rfl|omega|(simp_all;done)|(simp_all;omega))
  |trace_state
def placeI(l:List Attr)(s:ByteArray):Int:=if attrAt l s<l.length then(attrAt l s:Int)else -1
theorem Z6d(c:Clu)(s:ByteArray)(hc:smallK c):AC Tryz.prog 74 [.pv (.agg (cClu c)),.pv (vstr s)] [] (.pv (vint (placeI c.attrs s))) []:=by
 have hl:c.attrs.length<=1048576:=hc.1;refine AC.of_awp (T:=T) T_ok hm Tryz.call74 Tryz.func74 rfl rfl rfl ?_
 conv=>whnf
 refine⟨Nat,fun k=>k<=c.attrs.length∧∀j,j<k->decide ((c.attrs.getD j default).name=s)=false,fun k=>⟨[(1,.pv (vstr s)),(2,.ptr 2 0),(8,.pv (vint c.attrs.length)),(9,.pv (vint k))],[(2,.pbox (cClu c))]⟩,fun k=>c.attrs.length-k,0,[],⟨qe _,fun j h=>absurd h (by omega)⟩,⟨⟨PSubs.rfl,trivial⟩,.rfl,rfl,.rfl,.rfl⟩,fun k hk=>?_⟩
 conv=>whnf
 refine⟨fun h=>?_,fun h=>?_⟩
 ·simp only[Q0]at h
  conv=>whnf
  refine⟨by omega,?_⟩
  conv=>whnf
  refine⟨fun h2=>?_,fun h2=>?_⟩
  ·conv=>whnf
   have ea:attrAt c.attrs s=k:=Z0u (by omega) h2 hk.2;exact PSub.int (by rw[placeI,ea,qK (by omega)])
  conv=>whnf
  refine .inl ⟨wrap64 (by omega),?_⟩
  conv=>whnf
  refine⟨k+1,[],⟨by omega,fun j hj=>?_⟩,by dsimp only;omega,⟨PSubs.rfl,trivial⟩,.rfl,rfl,.rfl,.rfl⟩
  by_cases e:j=k
  ·subst e;exact h2
  exact hk.2 j (by omega)
 conv=>whnf
 simp only[Q1]at h;have ea:attrAt c.attrs s=c.attrs.length:=Z0z fun j hj=>hk.2 j (by omega)
 exact PSub.int (by rw[placeI,ea,qJ (by omega)])
theorem Zc5(c:Clu)(s:ByteArray)(hc:smallK c):AC Tryz.prog 43 [.pv (.agg (cClu c)),.pv (vstr s)] [] (.pv (.tup [.agg (cAttr (attrOf c.attrs s)),vbool (decide (attrAt c.attrs s<c.attrs.length))])) []:=by
 refine AC.of_awp (T:=T) T_ok hm Tryz.call43 Tryz.func43 rfl rfl rfl ?_
 conv=>whnf
 refine .inl ⟨_,Z6d c s hc,?_⟩
 conv=>whnf
 have hp:placeI c.attrs s<0↔¬attrAt c.attrs s<c.attrs.length:=by unfold placeI;split<;>omega
 refine⟨fun h=>?_,fun h=>?_⟩
 ·conv=>whnf
  simp only[Q0]at h;have h:=hp.1 h;refine⟨?_,?_⟩
  ·conv=>whnf
   rw[attrOf,qJ h];exact PSub.agg ⟨.rfl,.rfl,.rfl,.rfl,PSub.nil_ro _ _,PSub.lit_sb rfl,PSub.lit_sb rfl,trivial⟩
  conv=>whnf
  exact PSub.lit_sb (by simp[h])
 simp only[Q1]at h;have h:attrAt c.attrs s<c.attrs.length:=Classical.not_not.1 fun x=>h (hp.2 x)
 have e:placeI c.attrs s=(attrAt c.attrs s:Int):=by rw[placeI,qK h]
 rw[e]
 conv=>whnf
 refine⟨by omega,?_⟩
 conv=>whnf
 refine⟨?_,?_⟩
 ·conv=>whnf
  exact PSub.of_eq (by rw[attrOf,qK h];rfl)
 conv=>whnf
 exact PSub.lit_sb (by simp[h])
theorem Zkq(c:Clu)(hc:smallK c):AC Tryz.prog 223 [.pv (.agg (cClu c))] [] (.pv (vbool (wideB c))) []:=by
 have hl:c.commands.length<=1048576:=hc.2.2.1;refine AC.of_awp (T:=T) T_ok hm Tryz.call223 Tryz.func223 rfl rfl rfl ?_
 conv=>whnf
 refine⟨fun h=>?_,fun h=>?_⟩
 ·conv=>whnf
  simp only[Q0]at h;exact PSub.lit_sb (by simp[wideB,show 12<c.attrs.length from by omega])
 conv=>whnf
 refine⟨fun h1=>?_,fun h1=>?_⟩
 ·conv=>whnf
  simp only[Q0]at h1;exact PSub.lit_sb (by simp[wideB,show 12<c.commands.length from by omega])
 conv=>whnf
 refine⟨fun h2=>?_,fun h2=>?_⟩
 ·conv=>whnf
  simp only[Q0]at h2;exact PSub.lit_sb (by simp[wideB,show 12<c.events.length from by omega])
 conv=>whnf
 simp only[Q1]at h h1 h2;have e0:wideB c=manyE c.commands:=by simp[wideB,show ¬12<c.attrs.length from by omega,show ¬12<c.commands.length from by omega,show ¬12<c.events.length from by omega]
 rw[e0];refine⟨Nat,fun k=>k<=c.commands.length∧∀j,j<k->¬12<(c.commands.getD j default).effects.length,fun k=>⟨[(1,.ptr 1 0),(22,.pv (vint c.commands.length)),(23,.pv (vint k))],[(1,.pbox (cClu c))]⟩,fun k=>c.commands.length-k,0,[],⟨qe _,fun j h=>absurd h (by omega)⟩,⟨⟨PSubs.rfl,trivial⟩,rfl,.rfl,.rfl⟩,fun k hk=>?_⟩
 conv=>whnf
 refine⟨fun h=>?_,fun h=>?_⟩
 ·simp only[Q0]at h
  conv=>whnf
  refine⟨by omega,?_⟩
  conv=>whnf
  refine⟨fun h2=>?_,fun h2=>?_⟩
  ·conv=>whnf
   simp only[Q0,Q4]at h2;exact PSub.lit_sb (Za7 (k:=k) (by omega) (by omega)).symm
  conv=>whnf
  simp only[Q1,Q4]at h2;refine .inl ⟨wrap64 (by omega),?_⟩
  conv=>whnf
  refine⟨k+1,[],⟨by omega,fun j hj=>?_⟩,by dsimp only;omega,⟨PSubs.rfl,trivial⟩,rfl,.rfl,.rfl⟩
  by_cases e:j=k
  ·subst e;omega
  exact hk.2 j (by omega)
 conv=>whnf
 simp only[Q1]at h;exact PSub.lit_sb (Zfv fun j hj=>hk.2 j (by omega)).symm
theorem Zc8(a b:List ByteArray)(ha:a.length<=1048576):AC Tryz.prog 266 [.pv (roL 1 cstr a),.pv (roL 1 cstr b)] [] (.pv (vbool (decide (a=b)))) []:=by
 refine AC.of_awp (T:=T) T_ok hm Tryz.call266 Tryz.func266 rfl rfl rfl ?_
 conv=>whnf
 refine⟨fun h=>?_,fun h=>?_⟩
 ·conv=>whnf
  simp only[Q2,Q1]at h;exact PSub.lit_sb (by symm;simp only[Q1];intro e;exact h (by rw[e]))
 conv=>whnf
 simp only[Q3,Q0]at h;refine⟨Nat,fun k=>k<=a.length∧∀j,j<k->a.getD j default=b.getD j default,fun k=>⟨[(0,.pv (roL 1 cstr a)),(1,.pv (roL 1 cstr b)),(12,.pv (vint a.length)),(13,.pv (vint k))],[]⟩,fun k=>a.length-k,0,[],⟨qe _,fun j h=>absurd h (by omega)⟩,⟨.rfl,.rfl,.rfl,.rfl⟩,fun k hk=>?_⟩
 conv=>whnf
 refine⟨fun h2=>?_,fun h2=>?_⟩
 ·simp only[Q0]at h2
  conv=>whnf
  refine⟨by kernel_rfl,?_⟩
  conv=>whnf
  refine⟨by omega,?_⟩
  conv=>whnf
  refine⟨by omega,?_⟩
  conv=>whnf
  refine⟨by kernel_rfl,?_⟩
  conv=>whnf
  refine⟨fun h3=>?_,fun h3=>?_⟩
  ·conv=>whnf
   simp only[Q2,Q1]at h3;exact PSub.lit_sb (by symm;simp only[Q1];intro e;exact h3 (by rw[e]))
  conv=>whnf
  simp only[Q3,Q0,Q4]at h3;refine .inl ⟨wrap64 (by omega),?_⟩
  conv=>whnf
  refine⟨k+1,[],⟨by omega,fun j hj=>?_⟩,by dsimp only;omega,.rfl,.rfl,.rfl,.rfl⟩
  by_cases e:j=k
  ·subst e;exact h3
  exact hk.2 j (by omega)
 conv=>whnf
 simp only[Q1]at h2;exact PSub.lit_sb (by symm;simp only[Q0];exact Z7b (by omega) fun i hi=>hk.2 i (by omega))
theorem Zkp(x:Eff)(a p:Attr)(ha:smallA a)(hp:smallA p):AC Tryz.prog 267 [.pv (.agg (cEff x)),.pv (.agg (cAttr a)),.pv (.agg (cAttr p))] [] (.pv (vbool (suitsB x a p))) []:=by
 have e0:alikeB a p=(decide (p.kind=a.kind)&&decide (p.enum=a.enum)):=by simp only[alikeB];congr 1<;>(rw[qt];simp only[Q0];exact⟨fun h=>h.symm,fun h=>h.symm⟩)
 refine AC.of_awp (T:=T) T_ok hm Tryz.call267 Tryz.func267 rfl rfl rfl ?_
 conv=>whnf
 repeat(any_goals((first|refine⟨QT ?_,QF ?_⟩<;>intro h<;>(try simp only[Q0,Q1,Q2,Q3,Q4,Q5,Q6,Q7,Q8,reduceCtorEq]at h)|refine .inl ⟨_,Z34 a ⟨a.kind,x.n,⟨#[]⟩⟩ ha,?_⟩|refine .inl ⟨_,Zc8 p.enum a.enum hp,?_⟩)<;>conv=>whnf))
 all_goals(try simp only[Q0,Q1,Q2,Q3,Q4,Q5,Q6,Q7,Q8,reduceCtorEq]at *)
 all_goals first
  |contradiction
  |(exfalso;omega)
  |exact PSub.rfl
  |(refine PSub.int ?_;simp only[suitsB,e0];(repeat' split)<;>first|rfl|omega|(simp_all[-List.getD_eq_getElem?_getD];done)|(simp_all[-List.getD_eq_getElem?_getD];omega))
  |(refine PSub.sb ?_;simp_all[suitsB,e0,-List.getD_eq_getElem?_getD];done)
  |(refine PSub.lit_sb ?_;simp_all[suitsB,e0,-List.getD_eq_getElem?_getD];done)
  |(refine PSub.sb_lit ?_;simp_all[suitsB,e0,-List.getD_eq_getElem?_getD];done)
  |(refine PSub.sb ?_;rw[qt];simp_all[suitsB,e0,-List.getD_eq_getElem?_getD];done)
  |(refine PSub.lit_sb ?_;rw[qt];simp_all[suitsB,e0,-List.getD_eq_getElem?_getD];done)
  |(refine PSub.sb_lit ?_;rw[qt];simp_all[suitsB,e0,-List.getD_eq_getElem?_getD];done)
  |skip
theorem Zu7{n:Int}:satI n≠n↔(n < -1099511627776∨1099511627776<n):=by unfold satI;omega
theorem Zkm(c:Clu)(p:Attr)(x:Eff)(hc:smallK c)(hp:smallA p):AC Tryz.prog 256 [.pv (.agg (cClu c)),.pv (.agg (cAttr p)),.pv (.agg (cEff x))] [] (.pv (vint (effE c p x))) []:=by
 have e:=@Zu7 x.n;refine AC.of_awp (T:=T) T_ok hm Tryz.call256 Tryz.func256 rfl rfl rfl ?_
 conv=>whnf
 repeat(any_goals((first|refine⟨QT ?_,QF ?_⟩<;>intro h<;>(try simp only[Q0,Q1,Q2,Q3,Q4,Q5,Q6,Q7,Q8,reduceCtorEq]at h)|refine .inl ⟨_,Zc5 c x.attr hc,?_⟩|refine .inl ⟨_,Zkp x (attrOf c.attrs x.attr) p (Zhz hc) hp,?_⟩)<;>conv=>whnf))
 all_goals rw[effE]
 all_goals(try simp only[Q0,Q1,Q2,Q3,Q4,Q5,Q6,Q7,Q8,reduceCtorEq]at *)
 all_goals first
  |contradiction
  |(exfalso;omega)
  |exact PSub.rfl
  |(refine PSub.int ?_;simp only[e];(repeat' split)<;>first|rfl|omega|(simp_all[-List.getD_eq_getElem?_getD];done)|(simp_all[-List.getD_eq_getElem?_getD];omega))
  |(refine PSub.sb ?_;simp_all[e,-List.getD_eq_getElem?_getD];done)
  |(refine PSub.lit_sb ?_;simp_all[e,-List.getD_eq_getElem?_getD];done)
  |(refine PSub.sb_lit ?_;simp_all[e,-List.getD_eq_getElem?_getD];done)
  |(refine PSub.sb ?_;rw[qt];simp_all[e,-List.getD_eq_getElem?_getD];done)
  |(refine PSub.lit_sb ?_;rw[qt];simp_all[e,-List.getD_eq_getElem?_getD];done)
  |(refine PSub.sb_lit ?_;rw[qt];simp_all[e,-List.getD_eq_getElem?_getD];done)
  |skip
theorem Zko(a:Attr)(ha:smallA a):AC Tryz.prog 255 [.pv (.agg (cAttr a)),.pv (.agg (cAttr noAttr))] [] (.pv (vbool (zeroA a))) []:=by
 refine AC.of_awp (T:=T) T_ok hm Tryz.call255 Tryz.func255 rfl rfl rfl ?_
 conv=>whnf
 repeat(any_goals((first|refine⟨QT ?_,QF ?_⟩<;>intro h<;>(try simp only[Q0,Q1,Q2,Q3,Q4,Q5,Q6,Q7,Q8,reduceCtorEq]at h)|refine .inl ⟨_,Zc8 a.enum [] ha,?_⟩)<;>conv=>whnf))
 all_goals first|(refine PSub.sb ?_;rw[qt,Z7y];simp_all[noAttr];done)|(refine PSub.lit_sb ?_;rw[qt,Z7y];simp_all[noAttr];done)|skip
theorem Z6g{n:Nat}{p:Nat->Bool}:anyN n p=true↔∃k,k<n∧p k=true:=by simp[anyN]
theorem Zkn(c:Clu)(i:Nat)(hc:smallK c)(hi:i<c.commands.length):AC Tryz.prog 224 [.pv (.agg (cClu c)),.pv (vint i)] [] (.pv (vint (cmdE c i))) []:=by
 have hl:c.commands.length<=1048576:=hc.2.2.1;have hd:=hc.2.2.2.1 i;have hd2:(c.commands.getD i default).effects.length<=1048576:=hd.2;refine AC.of_awp (T:=T) T_ok hm Tryz.call224 Tryz.func224 rfl rfl rfl ?_
 conv=>whnf
 refine qa (by omega) ?_
 conv=>whnf
 refine .inl ⟨_,Z0p (c.commands.getD i default).name,?_⟩
 conv=>whnf
 refine⟨fun h=>?_,fun h=>?_⟩<;>(try simp only[Q0,Q1,Q2,Q3,Q4,Q5,Q6,Q7,Q8,reduceCtorEq]at h)<;>(conv=>whnf)
 ·exact PSub.int (by simp[cmdE,h,-List.getD_eq_getElem?_getD])
 have hv:=h;refine loop_k (ι:=Nat) [1,2,5] [2,5] (fun k=>k<=i∧(∀j,j<k->decide ((c.commands.getD j default).name=(c.commands.getD i default).name)=false)) (fun k=>i-k) 0 (fun k=>[(6,.pv (vint k))]) (fun _=>[]) [] ⟨qe _,fun j h=>absurd h (by omega)⟩ ?_ (fun k hk=>?_)
 ·exact QD
 obtain⟨hkn,hinv⟩:=hk
 conv=>whnf
 repeat(any_goals((first|refine⟨QT ?_,QF ?_⟩<;>intro h<;>(try simp only[Q0,Q1,Q2,Q3,Q4,Q5,Q6,Q7,Q8,reduceCtorEq]at h)|refine .inl ⟨_,AC.sub2 (Zko (c.commands.getD i default).param hd.1) .rfl (PSub.agg Zg9 (l:=zAttr)),?_⟩|refine .inl ⟨_,Z52 (c.commands.getD i default).param hd.1,?_⟩|refine QI ?_|refine QK ?_|refine .inl ⟨wrap64 (by omega),?_⟩)<;>conv=>whnf))
 case' refine_2.refine_2.refine_1.refine_2=>
  refine⟨k+1,[],⟨by omega,?_⟩,by first|omega|(dsimp only;omega),?_⟩;rotate_left
  ·exact QD
  intro j hj
  by_cases e:j=k
  ·subst e;first|exact h|simpa[-List.getD_eq_getElem?_getD]using h|simp_all[-List.getD_eq_getElem?_getD]
  exact hinv j (by omega)
 ·have e:=Z0a (n:=i) (p:=fun j=>decide ((c.commands.getD j default).name=(c.commands.getD i default).name)) (k:=k) (by omega) (by simpa[-List.getD_eq_getElem?_getD]using h);exact PSub.int (by simp[cmdE,hv,e,-List.getD_eq_getElem?_getD])
 all_goals have ef:anyN i (fun j=>decide ((c.commands.getD j default).name=(c.commands.getD i default).name))=false:=Z0d fun j hj=>hinv j (by omega)
 all_goals try(exact PSub.int (by simp_all[cmdE,-List.getD_eq_getElem?_getD];done))
 all_goals
  have e0:cmdE c i=firstE (c.commands.getD i default).effects.length fun j=>effE c (c.commands.getD i default).param ((c.commands.getD i default).effects.getD j default):=by simp_all[cmdE,-List.getD_eq_getElem?_getD]
  rw[e0];clear hinv hkn;refine loop_k (ι:=Nat) [2,5,50] [2,5] (fun k2=>k2<=(c.commands.getD i default).effects.length∧(∀j,j<k2->effE c (c.commands.getD i default).param ((c.commands.getD i default).effects.getD j default)=0)) (fun k2=>(c.commands.getD i default).effects.length-k2) 0 (fun k2=>[(51,.pv (vint k2))]) (fun _=>[]) [] ⟨qe _,fun j h=>absurd h (by omega)⟩ ?_ (fun k2 hk=>?_)
  ·exact QD
  obtain⟨hkn,hinv⟩:=hk
  conv=>whnf
  repeat(any_goals((first|refine⟨QT ?_,QF ?_⟩<;>intro h<;>(try simp only[Q0,Q1,Q2,Q3,Q4,Q5,Q6,Q7,Q8,reduceCtorEq]at h)|refine .inl ⟨_,Zkm c (c.commands.getD i default).param ((c.commands.getD i default).effects.getD k2 default) hc hd.1,?_⟩|refine QI ?_|refine QK ?_|refine .inl ⟨wrap64 (by omega),?_⟩)<;>conv=>whnf))
  ·exact PSub.int (by rw[Z06 (k:=k2) (by omega) h hinv])
  ·refine⟨k2+1,[],⟨by omega,?_⟩,by first|omega|(dsimp only;omega),?_⟩;rotate_left
   ·exact QD
   intro j hj
   by_cases e:j=k2
   ·subst e;first|exact h|simpa[-List.getD_eq_getElem?_getD]using h|simp_all[-List.getD_eq_getElem?_getD]
   exact hinv j (by omega)
  exact PSub.int (by rw[Z0c fun j hj=>hinv j (by omega)])
theorem Zgq{l:List Attr}{s:ByteArray}{k:Nat}(hk:k<l.length)(h:(l.getD k default).name=s):(placeI l s<(k:Int))↔anyN k (fun j=>decide ((l.getD j default).name=s))=true:=by
 have hlt:attrAt l s<=k∧attrAt l s<l.length:=by
  unfold attrAt firstI;split
  ·rename_i i e;rw[List.find?_range_eq_some]at e;refine⟨?_,by simpa using e.2.1⟩;rcases Nat.lt_or_ge k i with hlt|hge
   ·have:=e.2.2 k hlt;simp[h,-List.getD_eq_getElem?_getD]at this
   exact hge
  rename_i e;rw[List.find?_eq_none]at e;have:=e k (by simpa using hk);simp[h,-List.getD_eq_getElem?_getD]at this
 unfold placeI;rw[qK hlt.2,Z6g];constructor
 ·intro hh;refine⟨attrAt l s,by omega,?_⟩;unfold attrAt firstI;split
  ·rename_i i e;rw[List.find?_range_eq_some]at e;exact e.1
  rename_i e;rw[List.find?_eq_none]at e;have:=e k (by simpa using hk);simp[h,-List.getD_eq_getElem?_getD]at this
 rintro ⟨j,hj,e⟩
 have:attrAt l s<=j:=by
  unfold attrAt firstI;split
  ·rename_i i e2;rw[List.find?_range_eq_some]at e2;rcases Nat.lt_or_ge j i with hlt2|hge
   ·have:=e2.2.2 j hlt2;rw[e]at this;cases this
   exact hge
  rename_i e2;rw[List.find?_eq_none]at e2;have:=e2 k (by simpa using hk);simp[h,-List.getD_eq_getElem?_getD]at this
 omega
theorem Zc6(c:Clu)(hc:smallK c):AC Tryz.prog 168 [.pv (.agg (cClu c))] [] (.pv (vint (checkE c))) []:=by
 have hl1:c.attrs.length<=1048576:=hc.1;have hl2:c.commands.length<=1048576:=hc.2.2.1;have hl3:c.events.length<=1048576:=hc.2.2.2.2;refine AC.of_awp (T:=T) T_ok hm Tryz.call168 Tryz.func168 rfl rfl rfl ?_
 conv=>whnf
 refine .inl ⟨_,Z0p c.name,?_⟩
 conv=>whnf
 refine⟨fun h=>?_,fun h=>?_⟩<;>(try simp only[Q0,Q1,Q2,Q3,Q4,Q5,Q6,Q7,Q8,reduceCtorEq]at h)<;>(conv=>whnf)
 ·exact PSub.int (by simp[checkE,h,-List.getD_eq_getElem?_getD])
 have hv:=h;refine .inl ⟨_,Zkq c hc,?_⟩
 conv=>whnf
 refine⟨fun h=>?_,fun h=>?_⟩<;>(try simp only[Q0,Q1,Q2,Q3,Q4,Q5,Q6,Q7,Q8,reduceCtorEq]at h)<;>(conv=>whnf)
 ·exact PSub.int (by simp[checkE,h,hv,-List.getD_eq_getElem?_getD])
 have hw:=h;refine loop_k (ι:=Nat) [1,17] [1] (fun k=>k<=c.attrs.length∧(∀j,j<k->attrE c.attrs j=0)) (fun k=>c.attrs.length-k) 0 (fun k=>[(18,.pv (vint k))]) (fun _=>[]) [] ⟨qe _,fun j h=>absurd h (by omega)⟩ ?_ (fun k hk=>?_)
 ·exact QD
 obtain⟨hkn,hinv⟩:=hk
 conv=>whnf
 repeat(any_goals((first|refine⟨QT ?_,QF ?_⟩<;>intro h<;>(try simp only[Q0,Q1,Q2,Q3,Q4,Q5,Q6,Q7,Q8,reduceCtorEq]at h)|refine .inl ⟨_,Z52 (c.attrs.getD k default) (hc.2.1 k),?_⟩|refine .inl ⟨_,Z6d c (c.attrs.getD k default).name hc,?_⟩|refine QI ?_|refine QK ?_|refine .inl ⟨wrap64 (by omega),?_⟩)<;>conv=>whnf))
 ·have e:attrE c.attrs k=defE (c.attrs.getD k default):=by simp[attrE,h,-List.getD_eq_getElem?_getD]
  have e2:=Z06 (n:=c.attrs.length) (k:=k) (f:=attrE c.attrs) (by omega) (by rw[e];exact h) hinv;rw[e]at e2;exact PSub.int (by simp[checkE,e2,h,hv,hw,-List.getD_eq_getElem?_getD])
 ·rename_i hd;rw[Zgq (by omega) rfl]at h;have e:attrE c.attrs k=9:=by simp[attrE,hd,h,-List.getD_eq_getElem?_getD]
  have e2:=Z06 (n:=c.attrs.length) (k:=k) (f:=attrE c.attrs) (by omega) (by rw[e];decide) hinv;rw[e]at e2;exact PSub.int (by simp[checkE,e2,hv,hw,-List.getD_eq_getElem?_getD])
 ·rename_i hd;rw[Zgq (by omega) rfl]at h;refine⟨k+1,[],⟨by omega,?_⟩,by first|omega|(dsimp only;omega),?_⟩;rotate_left
  ·exact QD
  intro j hj
  by_cases ee:j=k
  ·subst ee;simp[attrE,hd,h,-List.getD_eq_getElem?_getD]
  exact hinv j (by omega)
 have e1:firstE c.attrs.length (attrE c.attrs)=0:=Z0c fun j hj=>hinv j (by omega)
 clear hinv hkn h;refine loop_k (ι:=Nat) [1,43] [1] (fun k=>k<=c.commands.length∧(∀j,j<k->cmdE c j=0)) (fun k=>c.commands.length-k) 0 (fun k=>[(44,.pv (vint k))]) (fun _=>[]) [] ⟨qe _,fun j h=>absurd h (by omega)⟩ ?_ (fun k hk=>?_)
 ·exact QD
 obtain⟨hkn,hinv⟩:=hk
 conv=>whnf
 repeat(any_goals((first|refine⟨QT ?_,QF ?_⟩<;>intro h<;>(try simp only[Q0,Q1,Q2,Q3,Q4,Q5,Q6,Q7,Q8,reduceCtorEq]at h)|refine .inl ⟨_,Zkn c k hc (by omega),?_⟩|refine .inl ⟨wrap64 (by omega),?_⟩)<;>conv=>whnf))
 ·have e2:=Z06 (n:=c.commands.length) (k:=k) (f:=cmdE c) (by omega) h hinv;exact PSub.int (by simp[checkE,e1,e2,h,hv,hw,-List.getD_eq_getElem?_getD])
 ·refine⟨k+1,[],⟨by omega,?_⟩,by first|omega|(dsimp only;omega),?_⟩;rotate_left
  ·exact QD
  intro j hj
  by_cases e:j=k
  ·subst e;first|exact h|simpa[-List.getD_eq_getElem?_getD]using h|simp_all[-List.getD_eq_getElem?_getD]
  exact hinv j (by omega)
 have e2:firstE c.commands.length (cmdE c)=0:=Z0c fun j hj=>hinv j (by omega)
 have e0:checkE c=firstE c.events.length (evE c.events):=by simp[checkE,e1,e2,hv,hw,-List.getD_eq_getElem?_getD]
 rw[e0];clear hinv hkn h;refine loop_k (ι:=Nat) [1,56] [1] (fun k=>k<=c.events.length∧(∀j,j<k->evE c.events j=0)) (fun k=>c.events.length-k) 0 (fun k=>[(57,.pv (vint k))]) (fun _=>[]) [] ⟨qe _,fun j h=>absurd h (by omega)⟩ ?_ (fun k hk=>?_)
 ·exact QD
 obtain⟨hkn,hinv⟩:=hk
 conv=>whnf
 repeat(any_goals((first|refine⟨QT ?_,QF ?_⟩<;>intro h<;>(try simp only[Q0,Q1,Q2,Q3,Q4,Q5,Q6,Q7,Q8,reduceCtorEq]at h)|refine .inl ⟨_,Z0p (c.events.getD k default),?_⟩|refine QI ?_)<;>conv=>whnf))
 ·have e:evE c.events k=10:=by simp[evE,h,-List.getD_eq_getElem?_getD]
  exact PSub.int (by rw[Z06 (k:=k) (by omega) (by rw[e];decide) hinv,e])
 ·have hve:=h;have hinv1:=hinv;refine loop_k (ι:=Nat) [1,7,56,57] [1] (fun k2=>k2<=k∧(∀j,j<k2->c.events.getD j default≠c.events.getD k default)) (fun k2=>k-k2) 0 (fun k2=>[(8,.pv (vint k2))]) (fun _=>[]) [] ⟨qe _,fun j h=>absurd h (by omega)⟩ ?_ (fun k2 hk=>?_)
  ·exact QD
  obtain⟨hkn,hinv⟩:=hk
  conv=>whnf
  repeat(any_goals((first|refine⟨QT ?_,QF ?_⟩<;>intro h<;>(try simp only[Q0,Q1,Q2,Q3,Q4,Q5,Q6,Q7,Q8,reduceCtorEq]at h)|refine QI ?_|refine QK ?_|refine .inl ⟨wrap64 (by omega),?_⟩)<;>conv=>whnf))
  ·have e:=Z4m (l:=c.events) (n:=k) (k:=k2) (s:=c.events.getD k default) (by omega) h;have e:evE c.events k=9:=by simp[evE,hve,e,-List.getD_eq_getElem?_getD]
   exact PSub.int (by rw[Z06 (k:=k) (by omega) (by rw[e];decide) hinv1,e])
  ·refine⟨k2+1,[],⟨by omega,?_⟩,by first|omega|(dsimp only;omega),?_⟩;rotate_left
   ·exact QD
   intro j hj
   by_cases e:j=k2
   ·subst e;first|exact h|simpa[-List.getD_eq_getElem?_getD]using h|simp_all[-List.getD_eq_getElem?_getD]
   exact hinv j (by omega)
  have e:=Z7d (l:=c.events) (n:=k) (s:=c.events.getD k default) fun j hj=>hinv j (by omega)
  refine⟨k+1,[],⟨by omega,?_⟩,by first|omega|(dsimp only;omega),?_⟩;rotate_left
  ·exact QD
  intro j hj
  by_cases ee:j=k
  ·subst ee;simp[evE,hve,e,-List.getD_eq_getElem?_getD]
  exact hinv1 j (by omega)
 exact PSub.int (by rw[Z0c fun j hj=>hinv j (by omega)])
theorem Zkl(l:List Clu)(hl:smallKs l):AC Tryz.prog 103 [.pv (roL 4 cClu l)] [] (.pv (vint (allE l))) []:=by
 have hl1:l.length<=1048576:=hl.1;refine AC.of_awp (T:=T) T_ok hm Tryz.call103 Tryz.func103 rfl rfl rfl ?_
 conv=>whnf
 refine⟨fun h=>?_,fun h=>?_⟩<;>(try simp only[Q0,Q1,Q2,Q3,Q4,Q5,Q6,Q7,Q8,reduceCtorEq]at h)<;>(conv=>whnf)
 ·exact PSub.int (by rw[allE,qK (by omega)])
 rw[allE,qJ (by omega)];clear h;refine loop_k (ι:=Nat) [0,10] [] (fun k=>k<=l.length∧(∀j,j<k->cluE l j=0)) (fun k=>l.length-k) 0 (fun k=>[(11,.pv (vint k))]) (fun _=>[]) [] ⟨qe _,fun j h=>absurd h (by omega)⟩ ?_ (fun k hk=>?_)
 ·exact QD
 obtain⟨hkn,hinv⟩:=hk
 conv=>whnf
 repeat(any_goals((first|refine⟨QT ?_,QF ?_⟩<;>intro h<;>(try simp only[Q0,Q1,Q2,Q3,Q4,Q5,Q6,Q7,Q8,reduceCtorEq]at h)|refine .inl ⟨_,Zc6 (l.getD k default) (hl.2 k),?_⟩|refine QI ?_)<;>conv=>whnf))
 ·have e:cluE l k=checkE (l.getD k default):=by simp[cluE,h,-List.getD_eq_getElem?_getD]
  exact PSub.int (by rw[Z06 (k:=k) (by omega) (by rw[e];exact h) hinv,e])
 ·have hd:=h;have hinv1:=hinv;refine loop_k (ι:=Nat) [0,3,10,11] [] (fun k2=>k2<=k∧(∀j,j<k2->decide ((l.getD j default).name=(l.getD k default).name)=false)) (fun k2=>k-k2) 0 (fun k2=>[(5,.pv (vint k2))]) (fun _=>[]) [] ⟨qe _,fun j h=>absurd h (by omega)⟩ ?_ (fun k2 hk=>?_)
  ·exact QD
  obtain⟨hkn,hinv⟩:=hk
  conv=>whnf
  repeat(any_goals((first|refine⟨QT ?_,QF ?_⟩<;>intro h<;>(try simp only[Q0,Q1,Q2,Q3,Q4,Q5,Q6,Q7,Q8,reduceCtorEq]at h)|refine QI ?_|refine QK ?_|refine .inl ⟨wrap64 (by omega),?_⟩)<;>conv=>whnf))
  ·have e:=Z0a (n:=k) (k:=k2) (p:=fun j=>decide ((l.getD j default).name=(l.getD k default).name)) (by omega) (by simpa[-List.getD_eq_getElem?_getD]using h);have e:cluE l k=9:=by simp[cluE,hd,e,-List.getD_eq_getElem?_getD]
   exact PSub.int (by rw[Z06 (k:=k) (by omega) (by rw[e];decide) hinv1,e])
  ·refine⟨k2+1,[],⟨by omega,?_⟩,by first|omega|(dsimp only;omega),?_⟩;rotate_left
   ·exact QD
   intro j hj
   by_cases e:j=k2
   ·subst e;first|exact h|simpa[-List.getD_eq_getElem?_getD]using h|simp_all[-List.getD_eq_getElem?_getD]
   exact hinv j (by omega)
  have e:=Z0d (n:=k) (p:=fun j=>decide ((l.getD j default).name=(l.getD k default).name)) fun j hj=>hinv j (by omega)
  refine⟨k+1,[],⟨by omega,?_⟩,by first|omega|(dsimp only;omega),?_⟩;rotate_left
  ·exact QD
  intro j hj
  by_cases ee:j=k
  ·subst ee;simp[cluE,hd,e,-List.getD_eq_getElem?_getD]
  exact hinv1 j (by omega)
 exact PSub.int (by rw[Z0c fun j hj=>hinv j (by omega)])
def cluIx(l:List Clu)(s:ByteArray):Int:=if cluAt l s<l.length then(cluAt l s:Int)else -1
theorem Zca(H:Hom)(s:ByteArray)(hH:smallH H):AC Tryz.prog 73 [.pv (.agg (cHom H)),.pv (vstr s)] [] (.pv (vint (cluIx H.clusters s))) []:=by
 have hl:H.clusters.length<=1048576:=hH.1.1;refine AC.of_awp (T:=T) T_ok hm Tryz.call73 Tryz.func73 rfl rfl rfl ?_
 conv=>whnf
 refine loop_k (ι:=Nat) [1,2] [2] (fun k=>k<=H.clusters.length∧(∀j,j<k->decide ((H.clusters.getD j default).name=s)=false)) (fun k=>H.clusters.length-k) 0 (fun k=>[(5,.pv (vint k))]) (fun _=>[]) [] ⟨qe _,fun j h=>absurd h (by omega)⟩ ?_ (fun k hk=>?_)
 ·exact QD
 obtain⟨hkn,hinv⟩:=hk
 conv=>whnf
 repeat(any_goals((first|refine⟨QT ?_,QF ?_⟩<;>intro h<;>(try simp only[Q0,Q1,Q2,Q3,Q4,Q5,Q6,Q7,Q8,reduceCtorEq]at h)|refine QI ?_|refine .inl ⟨wrap64 (by omega),?_⟩)<;>conv=>whnf))
 ·have e:cluAt H.clusters s=k:=Z0u (by omega) (by simpa[-List.getD_eq_getElem?_getD]using h) hinv;exact PSub.int (by rw[cluIx,e,qK (by omega)])
 ·refine⟨k+1,[],⟨by omega,?_⟩,by first|omega|(dsimp only;omega),?_⟩;rotate_left
  ·exact QD
  intro j hj
  by_cases e:j=k
  ·subst e;first|exact h|simpa[-List.getD_eq_getElem?_getD]using h|simp_all[-List.getD_eq_getElem?_getD]
  exact hinv j (by omega)
 have e:cluAt H.clusters s=H.clusters.length:=Z0z fun j hj=>hinv j (by omega)
 exact PSub.int (by rw[cluIx,e,qJ (by omega)])
def devIx(l:List Dev)(id:Int):Int:=if devAt l id<l.length then(devAt l id:Int)else -1
theorem Zkr(H:Hom)(id:Int)(hH:smallH H):AC Tryz.prog 72 [.pv (.agg (cHom H)),.pv (vint id)] [] (.pv (vint (devIx H.devices id))) []:=by
 have hl:H.devices.length<=1048576:=hH.2.1;refine AC.of_awp (T:=T) T_ok hm Tryz.call72 Tryz.func72 rfl rfl rfl ?_
 conv=>whnf
 refine loop_k (ι:=Nat) [1,2] [2] (fun k=>k<=H.devices.length∧(∀j,j<k->decide ((H.devices.getD j default).id=id)=false)) (fun k=>H.devices.length-k) 0 (fun k=>[(5,.pv (vint k))]) (fun _=>[]) [] ⟨qe _,fun j h=>absurd h (by omega)⟩ ?_ (fun k hk=>?_)
 ·exact QD
 obtain⟨hkn,hinv⟩:=hk
 conv=>whnf
 repeat(any_goals((first|refine⟨QT ?_,QF ?_⟩<;>intro h<;>(try simp only[Q0,Q1,Q2,Q3,Q4,Q5,Q6,Q7,Q8,reduceCtorEq]at h)|refine QI ?_|refine .inl ⟨wrap64 (by omega),?_⟩)<;>conv=>whnf))
 ·have e:devAt H.devices id=k:=Z0u (by omega) (by simpa[-List.getD_eq_getElem?_getD]using h) hinv;exact PSub.int (by rw[devIx,e,qK (by omega)])
 ·refine⟨k+1,[],⟨by omega,?_⟩,by first|omega|(dsimp only;omega),?_⟩;rotate_left
  ·exact QD
  intro j hj
  by_cases e:j=k
  ·subst e;first|exact h|simpa[-List.getD_eq_getElem?_getD]using h|simp_all[-List.getD_eq_getElem?_getD]
  exact hinv j (by omega)
 have e:devAt H.devices id=H.devices.length:=Z0z fun j hj=>hinv j (by omega)
 exact PSub.int (by rw[devIx,e,qJ (by omega)])
theorem Z6x{l:List Clu}{s:ByteArray}:(cluIx l s<0∧firstC l s=none)∨∃k:Nat,cluIx l s=k∧k<l.length∧firstC l s=some (l.getD k default):=by
 rw[Z9i];unfold cluIx;split
 ·rename_i h;exact .inr ⟨_,rfl,h,rfl⟩
 exact .inl ⟨by omega,rfl⟩
theorem Zkv(H:Hom)(d:Dev)(hH:smallH H):AC Tryz.prog 169 [.pv (.agg (cHom H)),.pv (.agg (cDev d))] [] (.pv (vint (capE (firstC H.clusters) d))) []:=by
 have hl:H.clusters.length<=1048576:=hH.1.1;refine AC.of_awp (T:=T) T_ok hm Tryz.call169 Tryz.func169 rfl rfl rfl ?_
 conv=>whnf
 refine⟨fun h=>?_,fun h=>?_⟩
 ·conv=>whnf
  simp only[Q0]at h;exact PSub.int (by rw[capE,qK (by omega)])
 conv=>whnf
 refine⟨fun h=>?_,fun h=>?_⟩<;>(try simp only[Q0,Q1,Q2,Q3,Q4,Q5,Q6,Q7,Q8,reduceCtorEq]at h)<;>(conv=>whnf)
 ·exact PSub.int (by rw[capE,qK (by omega)])
 rename_i h0;simp only[Q1]at h0;rw[capE,qJ (by omega)];refine loop_k (ι:=Nat×Int) [2,3] [2,3] (fun i=>i.1<=d.clusters.length∧(0<=i.2∧i.2<=i.1*1048576)∧forI (capStep (firstC H.clusters) d) (d.clusters.length-i.1) i.1 i.2=forI (capStep (firstC H.clusters) d) d.clusters.length 0 0) (fun i=>d.clusters.length-i.1) (0,0) (fun i=>[(5,.pv (vint i.2)),(6,.pv (vint i.1))]) (fun _=>[]) [] ⟨qe _,by simp,rfl⟩ ?_ (fun i hk=>?_)
 ·exact QD
 obtain⟨k,n⟩:=i;obtain⟨hkn,hn,hfor⟩:=hk;simp only at hkn hn hfor
 conv=>whnf
 refine⟨fun h=>?_,fun h=>?_⟩<;>(try simp only[Q0,Q1,Q2,Q3,Q4,Q5,Q6,Q7,Q8,reduceCtorEq]at h)<;>(conv=>whnf)
 ·repeat(any_goals((first|refine⟨QT ?_,QF ?_⟩<;>intro h<;>(try simp only[Q0,Q1,Q2,Q3,Q4,Q5,Q6,Q7,Q8,reduceCtorEq]at h)|refine .inl ⟨_,Zca H (d.clusters.getD k default) hH,?_⟩|refine .inl ⟨_,Z1a d.clusters (d.clusters.getD k default) (by omega),?_⟩|refine QI ?_|refine QK ?_)<;>conv=>whnf))
  ·have hc:firstC H.clusters (d.clusters.getD k default)=none:=by
    rcases Z6x (l:=H.clusters) (s:=d.clusters.getD k default)with⟨_,e⟩|⟨j,e,_,_⟩
    ·exact e
    omega
   rw[Z71 hfor (by omega) (r:=8) (by rw[capStep,hc])];exact PSub.rfl
  ·rcases Z6x (l:=H.clusters) (s:=d.clusters.getD k default)with⟨_,_⟩|⟨j,e,hj,hc⟩
   ·omega
   rw[Z71 hfor (by omega) (r:=9) (by rw[capStep,hc];simp only;rw[qK h])];exact PSub.rfl
  rcases Z6x (l:=H.clusters) (s:=d.clusters.getD k default)with⟨_,_⟩|⟨j,e,hj,hc⟩
  ·omega
  rw[e];have hcl:(H.clusters.getD j default).attrs.length<=1048576:=(hH.1.2 j).1;refine qa (by omega) ?_
  conv=>whnf
  refine .inl ⟨wrap64 (by simp only[Q4];omega),?_⟩
  conv=>whnf
  repeat(any_goals((first|refine .inl ⟨wrap64 (by omega),?_⟩)<;>conv=>whnf))
  refine⟨(k+1,n+(H.clusters.getD j default).attrs.length),[],⟨by dsimp only;omega,⟨by dsimp only;omega,by dsimp only;omega⟩,Zeh hfor (by omega) (by rw[capStep,hc];simp only;rw[if_neg h])⟩,by dsimp only;omega,?_⟩
  all_goals exact QD
 rw[Zeg hfor (by omega)]
 repeat(any_goals((first|refine⟨QT ?_,QF ?_⟩<;>intro h<;>(try simp only[Q0,Q1,Q2,Q3,Q4,Q5,Q6,Q7,Q8,reduceCtorEq]at h))<;>conv=>whnf))
 ·exact PSub.int (by simp only;rw[qK h])
 exact PSub.int (by simp only;rw[qJ h])
set_option maxHeartbeats 2000000 in
theorem Zku(H:Hom)(i:Nat)(hH:smallH H)(hi:i<H.devices.length):AC Tryz.prog 104 [.pv (.agg (cHom H)),.pv (vint i)] [] (.pv (vint (devE (firstC H.clusters) H.devices i))) []:=by
 have hl:H.devices.length<=1048576:=hH.2.1;have hpi:(↑i-1:Int).toNat=i-1:=by omega
 refine AC.of_awp (T:=T) T_ok hm Tryz.call104 Tryz.func104 rfl rfl rfl ?_
 conv=>whnf
 repeat(any_goals((first|refine⟨QT ?_,QF ?_⟩<;>intro h<;>(try simp only[Q0,Q1,Q2,Q3,Q4,Q5,Q6,Q7,Q8,reduceCtorEq]at h)|refine QI ?_|refine QK ?_|refine .inl ⟨wrap64 (by omega),?_⟩)<;>conv=>whnf))
 all_goals try rw[hpi]at h
 all_goals try(exfalso;simp_all[-List.getD_eq_getElem?_getD];done)
 all_goals try(refine PSub.int ?_;simp only[devE,numB];simp_all[-List.getD_eq_getElem?_getD];done)
 all_goals try(refine PSub.int ?_;simp only[devE,numB];simp_all[-List.getD_eq_getElem?_getD];omega)
 all_goals trace "left"
 all_goals
  have e0:devE (firstC H.clusters) H.devices i=if anyN i (fun j=>decide ((H.devices.getD j default).eui=(H.devices.getD i default).eui))=true then 9 else if validName (H.devices.getD i default).room=false then 10 else capE (firstC H.clusters) (H.devices.getD i default):=by
   have hn:numB (H.devices.getD i default)=true:=by simp only[numB];simp_all[-List.getD_eq_getElem?_getD]
   simp only[devE];rw[hn];simp only[Bool.true_eq_false,if_false];rw[qJ (by omega)]
  rw[e0];refine loop_k (ι:=Nat) [1,2,5] [2,5] (fun k=>k<=i∧(∀j,j<k->decide ((H.devices.getD j default).eui=(H.devices.getD i default).eui)=false)) (fun k=>i-k) 0 (fun k=>[(6,.pv (vint k))]) (fun _=>[]) [] ⟨qe _,fun j h=>absurd h (by omega)⟩ ?_ (fun k hk=>?_)
  ·exact QD
  obtain⟨hkn,hinv⟩:=hk
  conv=>whnf
  clear e0
  repeat(any_goals((first|refine⟨QT ?_,QF ?_⟩<;>intro h<;>(try simp only[Q0,Q1,Q2,Q3,Q4,Q5,Q6,Q7,Q8,reduceCtorEq]at h)|refine .inl ⟨_,Z0p (H.devices.getD i default).room,?_⟩|refine .inl ⟨_,Zkv H (H.devices.getD i default) hH,?_⟩|refine QI ?_|refine QK ?_|refine .inl ⟨wrap64 (by omega),?_⟩)<;>conv=>whnf))
  ·have e:=Z0a (n:=i) (k:=k) (p:=fun j=>decide ((H.devices.getD j default).eui=(H.devices.getD i default).eui)) (by omega) (by simpa[-List.getD_eq_getElem?_getD]using h);exact PSub.int (by rw[qK e])
  ·refine⟨k+1,[],⟨by omega,?_⟩,by first|omega|(dsimp only;omega),?_⟩;rotate_left
   ·exact QD
   intro j hj
   by_cases e:j=k
   ·subst e;first|exact h|simpa[-List.getD_eq_getElem?_getD]using h|simp_all[-List.getD_eq_getElem?_getD]
   exact hinv j (by omega)
  ·have e:=Z0d (n:=i) (p:=fun j=>decide ((H.devices.getD j default).eui=(H.devices.getD i default).eui)) (fun j hj=>hinv j (by omega));exact PSub.int (by rw[e,qJ (by simp),qK h])
  have e:=Z0d (n:=i) (p:=fun j=>decide ((H.devices.getD j default).eui=(H.devices.getD i default).eui)) (fun j hj=>hinv j (by omega));exact PSub.int (by rw[e,qJ (by simp),qJ (by rw[h];decide)])
theorem Z8b(H:Hom)(hH:smallH H):AC Tryz.prog 60 [.pv (.agg (cHom H))] [] (.pv (vint (homE H))) []:=by
 have hl:H.devices.length<=1048576:=hH.2.1;refine AC.of_awp (T:=T) T_ok hm Tryz.call60 Tryz.func60 rfl rfl rfl ?_
 conv=>whnf
 refine .inl ⟨_,Zkl H.clusters hH.1,?_⟩
 conv=>whnf
 refine⟨fun h=>?_,fun h=>?_⟩<;>(try simp only[Q0,Q1,Q2,Q3,Q4,Q5,Q6,Q7,Q8,reduceCtorEq]at h)<;>(conv=>whnf)
 ·exact PSub.int (by rw[homE,qK h])
 rw[homE,qJ (by simpa using h)];refine⟨fun h=>?_,fun h=>?_⟩<;>(try simp only[Q0,Q1,Q2,Q3,Q4,Q5,Q6,Q7,Q8,reduceCtorEq]at h)<;>(conv=>whnf)
 ·exact PSub.int (by rw[qK (by omega)])
 rw[qJ (by omega)];refine loop_k (ι:=Nat) [1] [1] (fun k=>k<=H.devices.length∧(∀j,j<k->devE (firstC H.clusters) H.devices j=0)) (fun k=>H.devices.length-k) 0 (fun k=>[(4,.pv (vint k))]) (fun _=>[]) [] ⟨qe _,fun j h=>absurd h (by omega)⟩ ?_ (fun k hk=>?_)
 ·exact QD
 obtain⟨hkn,hinv⟩:=hk
 conv=>whnf
 refine⟨fun h=>?_,fun h=>?_⟩<;>(try simp only[Q0,Q1,Q2,Q3,Q4,Q5,Q6,Q7,Q8,reduceCtorEq]at h)<;>(conv=>whnf)
 ·refine .inl ⟨_,Zku H k hH (by omega),?_⟩
  conv=>whnf
  repeat(any_goals((first|refine⟨QT ?_,QF ?_⟩<;>intro h<;>(try simp only[Q0,Q1,Q2,Q3,Q4,Q5,Q6,Q7,Q8,reduceCtorEq]at h)|refine .inl ⟨wrap64 (by omega),?_⟩)<;>conv=>whnf))
  ·exact PSub.int (by rw[Z06 (k:=k) (by omega) h hinv])
  refine⟨k+1,[],⟨by omega,?_⟩,by first|omega|(dsimp only;omega),?_⟩;rotate_left
  ·exact QD
  intro j hj
  by_cases e:j=k
  ·subst e;first|exact h|simpa[-List.getD_eq_getElem?_getD]using h|simp_all[-List.getD_eq_getElem?_getD]
  exact hinv j (by omega)
 exact PSub.int (by rw[Z0c fun j hj=>hinv j (by omega)])
theorem Z53(a b:Key):AC Tryz.prog 21 [.pv (.agg (cKey a)),.pv (.agg (cKey b))] [] (.pv (vbool (keyLess a b))) []:=by
 refine AC.of_awp (T:=T) T_ok hm Tryz.call21 Tryz.func21 rfl rfl rfl ?_
 conv=>whnf
 repeat(any_goals((first|refine⟨QT ?_,QF ?_⟩<;>intro h<;>(try simp only[Q0,Q1,Q2,Q3,Q4,Q5,Q6,Q7,Q8,reduceCtorEq]at h))<;>conv=>whnf))
 all_goals(try simp only[Q0,Q1,Q2,Q3,Q4,Q5,Q6,Q7,Q8,reduceCtorEq]at *)
 all_goals first
  |contradiction
  |(exfalso;omega)
  |exact PSub.rfl
  |(refine PSub.int ?_;simp only[keyLess];(repeat' split)<;>first|rfl|omega|(simp_all[-List.getD_eq_getElem?_getD];done)|(simp_all[-List.getD_eq_getElem?_getD];omega))
  |(refine PSub.sb ?_;simp_all[keyLess,-List.getD_eq_getElem?_getD];done)
  |(refine PSub.lit_sb ?_;simp_all[keyLess,-List.getD_eq_getElem?_getD];done)
  |(refine PSub.sb_lit ?_;simp_all[keyLess,-List.getD_eq_getElem?_getD];done)
  |(refine PSub.sb ?_;rw[qt];simp_all[keyLess,-List.getD_eq_getElem?_getD];done)
  |(refine PSub.lit_sb ?_;rw[qt];simp_all[keyLess,-List.getD_eq_getElem?_getD];done)
  |(refine PSub.sb_lit ?_;rw[qt];simp_all[keyLess,-List.getD_eq_getElem?_getD];done)
  |skip
theorem Zdt{H:Hom}{id:Int}(hv:homE H=0):(devIx H.devices id<0∧findB H id=false)∨(devIx H.devices id=(devAt H.devices id:Int)∧devAt H.devices id<H.devices.length∧findB H id=true∧findD H id=H.devices.getD (devAt H.devices id) default):=by
 have:findB H id=decide (devAt H.devices id<H.devices.length):=by simp[findB,hv]
 unfold devIx;split
 ·rename_i h;have e:findB H id=true:=by simp[this,h]
  exact .inr ⟨rfl,h,e,by rw[findD,qK e]⟩
 rename_i h;exact .inl ⟨by omega,by simp[this,h]⟩
theorem Zo5{c:Clu}{s:ByteArray}:attrOf c.attrs s=(attrO (some c) s).getD noAttr∧decide (attrAt c.attrs s<c.attrs.length)=(attrO (some c) s).isSome:=by
 unfold attrOf attrO;simp only;split<;>simp[*]
theorem Z6e(H:Hom)(id:Int)(s:ByteArray)(hH:smallH H):AC Tryz.prog 42 [.pv (.agg (cHom H)),.pv (vint id),.pv (vstr s)] [] (.pv (.tup [.agg (cClu ((partO H id s).getD noClu)),vbool (partO H id s).isSome])) []:=by
 have hl:H.clusters.length<=1048576:=hH.1.1;have hd4:=@Z6v H id;refine AC.of_awp (T:=T) T_ok hm Tryz.call42 Tryz.func42 rfl rfl rfl ?_
 conv=>whnf
 refine .inl ⟨_,Zkr H id hH,?_⟩
 conv=>whnf
 refine⟨fun h=>?_,fun h=>?_⟩
 ·simp only[Q0]at h
  conv=>whnf
  have e:partO H id s=none:=by
   rw[partO,qJ]
   rintro ⟨h1,_⟩
   simp only[findB,qc,Q0]at h1;rcases Zdt (id:=id) h1.1 with h2|h2
   ·have:=h2.2;simp[findB,h1]at this
   omega
  rw[e];refine⟨?_,?_⟩<;>(conv=>whnf)
  ·exact Z4n
  exact PSub.lit_sb rfl
 simp only[Q1]at h
 conv=>whnf
 refine .inl ⟨_,Z8b H hH,?_⟩
 conv=>whnf
 refine⟨fun hv=>?_,fun hv=>?_⟩
 ·conv=>whnf
  simp at hv;have e:partO H id s=none:=by rw[partO,qJ (by simp[findB,hv])]
  rw[e];refine⟨?_,?_⟩<;>(conv=>whnf)
  ·exact Z4n
  exact PSub.lit_sb rfl
 simp at hv;rcases Zdt (id:=id) hv with h2|⟨h2,h3,h4,h5⟩
 ·omega
 rw[h2]
 conv=>whnf
 refine qa (by omega) ?_;rw[Q4]
 conv=>whnf
 have hcap:=Z9h h4
 repeat(any_goals((first|refine⟨QT ?_,QF ?_⟩<;>intro h<;>(try simp only[Q0,Q1,Q2,Q3,Q4,Q5,Q6,Q7,Q8,reduceCtorEq]at h)|refine .inl ⟨_,Z1a (H.devices.getD (devAt H.devices id) default).clusters s (by rw[<-h5];omega),?_⟩|refine QK ?_)<;>conv=>whnf))
 all_goals rw[<-h5]at h
 ·have e:partO H id s=none:=by rw[partO,qJ (by omega)]
  rw[e];refine⟨?_,?_⟩<;>(conv=>whnf)
  ·exact Z4n
  exact PSub.lit_sb rfl
 have hp:partO H id s=firstC H.clusters s:=by rw[partO,qK ⟨h4,by omega⟩]
 obtain⟨i,hi,he⟩:=Zev (by omega:0<=idxOf (findD H id).clusters s);obtain⟨c,h1⟩:=Zdg hcap hi;rw[he]at h1
 repeat(any_goals((first|refine .inl ⟨_,Zca H s hH,?_⟩)<;>conv=>whnf))
 rcases Z6x (l:=H.clusters) (s:=s)with⟨_,h6⟩|⟨j,h6,h7,h8⟩
 ·rw[h1]at h6;cases h6
 rw[h6]
 repeat(any_goals((first|refine QI ?_|refine QK ?_)<;>conv=>whnf))
 rw[hp,h8];refine⟨?_,?_⟩<;>(conv=>whnf)
 ·exact .rfl
 exact PSub.lit_sb rfl
theorem Z40(H:Hom)(k:Key)(hH:smallH H):AC Tryz.prog 19 [.pv (.agg (cHom H)),.pv (.agg (cKey k))] [] (.pv (.tup [.agg (cAttr ((findA H k).getD noAttr)),vbool (findA H k).isSome])) []:=by
 refine AC.of_awp (T:=T) T_ok hm Tryz.call19 Tryz.func19 rfl rfl rfl ?_
 conv=>whnf
 repeat(any_goals((first|refine⟨QT ?_,QF ?_⟩<;>intro h<;>(try simp only[Q0,Q1,Q2,Q3,Q4,Q5,Q6,Q7,Q8,reduceCtorEq]at h)|refine .inl ⟨_,Z6e H k.dev k.cluster hH,?_⟩|refine .inl ⟨_,Zc5 ((partO H k.dev k.cluster).getD noClu) k.attr (Zb7 hH),?_⟩)<;>conv=>whnf))
 ·have e:findA H k=none:=by
   rw[findA];cases h3:partO H k.dev k.cluster with
   |none=>rfl
   |some c=>rw[h3]at h;cases h
  rw[e];refine⟨?_,?_⟩<;>(conv=>whnf)
  ·exact Z5p
  exact PSub.lit_sb rfl
 cases h3:partO H k.dev k.cluster with
 |none=>rw[h3]at h;cases h
 |some c=>
  rw[findA,h3];obtain⟨e1,e2⟩:=@Zo5 c k.attr;refine⟨?_,?_⟩<;>(conv=>whnf)
  ·simp only[Option.getD_some];rw[e1];exact .rfl
  simp only[Option.getD_some];rw[e2];exact .rfl
open Go.Proofs Go.RowKit
section
variable {H:Type} {enc:TypeId×Value->H} {w:World} {bulk:DataW H->Nat}
theorem Zsz:Opens enc Tryz.prog w bulk BB 124 (fun n:Int=>[.val (.int .u64 n)]) (fun _=>True):=(Opens.int Tryz.underlying124).imp id (fun _=>rfl) (fun _ _=>trivial)
theorem Z5q:Opens enc Tryz.prog w bulk BB 4 (fun b:Bool=>[vbool b]) (fun _=>True):=Opens.bool Tryz.underlying4
def goodItem(x:Item):Prop:=goodKey x.key∧goodVal x.value∧inI64 x.version
theorem Zsc(hB:BulkOk bulk):Opens enc Tryz.prog w bulk BB 107 cItem goodItem:=
 (Opens.struct hB Tryz.underlying107 (by kernel_rfl) (.cons (size:=3) rfl (by kernel_rfl) (op_Key hB) (.cons (size:=3) rfl (by kernel_rfl) (Zae hB) (.cons (size:=1) rfl (by kernel_rfl) op_int .nil)))).imp (fun x=>⟨x.1,x.2.1,x.2.2.1⟩) (fun _=>rfl) (fun _ h=>⟨h.1,h.2.1,h.2.2.1⟩)
def goodItems(l:List Item):Prop:=smallL l∧∀i,i<l.length->goodItem (l.getD i default)
theorem Zgm(hB:BulkOk bulk):Opens enc Tryz.prog w bulk BB 31 (fun l:List Item=>[roL 7 cItem l]) goodItems:=
 (Opens.slice hB Tryz.underlying31 (by kernel_rfl) (by decide) (Zsc hB)).imp id (fun _=>rfl) (fun _ h=>h)
theorem Zgk(hB:BulkOk bulk):Opens enc Tryz.prog w bulk BB 70 cAttr smallA:=
 (Opens.struct hB Tryz.underlying70 (by kernel_rfl) (.cons (size:=1) rfl (by kernel_rfl) (Z0k hB) (.cons (size:=1) rfl (by kernel_rfl) op_int (.cons (size:=1) rfl (by kernel_rfl) op_int (.cons (size:=1) rfl (by kernel_rfl) op_int (.cons (size:=1) rfl (by kernel_rfl) (Z2k hB) (.cons (size:=1) rfl (by kernel_rfl) Z5q (.cons (size:=1) rfl (by kernel_rfl) Z5q .nil)))))))).imp
  (fun x=>⟨x.1,x.2.1,x.2.2.1,x.2.2.2.1,x.2.2.2.2.1,x.2.2.2.2.2.1,x.2.2.2.2.2.2.1⟩) (fun _=>rfl) (fun _ h=>h.2.2.2.2.1)
theorem Z73{α:Type}[Inhabited α]{l:List α}{p:α->Prop}(h:∀i,i<l.length->p (l.getD i default))(hd:p default)(i:Nat):p (l.getD i default):=by
 by_cases hi:i<l.length
 ·exact h i hi
 have:l.getD i default=default:=by simp[List.getD,Nat.le_of_not_lt hi]
 rw[this];exact hd
theorem Zsm(hB:BulkOk bulk):Opens enc Tryz.prog w bulk BB 110 (fun l:List Attr=>[roL 7 cAttr l]) (fun l=>smallL l∧∀i,smallA (l.getD i default)):=
 (Opens.slice hB Tryz.underlying110 (by kernel_rfl) (by decide) (Zgk hB)).imp id (fun _=>rfl) (fun _ h=>⟨h.1,Z73 h.2 (qe _)⟩)
theorem Zs6(hB:BulkOk bulk):Opens enc Tryz.prog w bulk BB 160 cEff (fun _=>True):=
 (Opens.struct hB Tryz.underlying160 (by kernel_rfl) (.cons (size:=1) rfl (by kernel_rfl) op_int (.cons (size:=1) rfl (by kernel_rfl) (Z0k hB) (.cons (size:=1) rfl (by kernel_rfl) op_int .nil)))).imp (fun x=>⟨x.1,x.2.1,x.2.2.1⟩) (fun _=>rfl) (fun _ _=>trivial)
theorem Zsq(hB:BulkOk bulk):Opens enc Tryz.prog w bulk BB 155 (fun l:List Eff=>[roL 3 cEff l]) smallL:=
 (Opens.slice hB Tryz.underlying155 (by kernel_rfl) (by decide) (Zs6 hB)).imp id (fun _=>rfl) (fun _ h=>h.1)
theorem Zs4(hB:BulkOk bulk):Opens enc Tryz.prog w bulk BB 157 cCmd smallC:=
 (Opens.struct hB Tryz.underlying157 (by kernel_rfl) (.cons (size:=1) rfl (by kernel_rfl) (Z0k hB) (.cons (size:=7) rfl (by kernel_rfl) (Zgk hB) (.cons (size:=1) rfl (by kernel_rfl) (Zsq hB) .nil)))).imp (fun x=>⟨x.1,x.2.1,x.2.2.1⟩) (fun _=>rfl) (fun _ h=>⟨h.2.1,h.2.2.1⟩)
theorem Zso(hB:BulkOk bulk):Opens enc Tryz.prog w bulk BB 111 (fun l:List Cmd=>[roL 9 cCmd l]) (fun l=>smallL l∧∀i,smallC (l.getD i default)):=
 (Opens.slice hB Tryz.underlying111 (by kernel_rfl) (by decide) (Zs4 hB)).imp id (fun _=>rfl) (fun _ h=>⟨h.1,Z73 h.2 ⟨qe _,qe _⟩⟩)
theorem Zs3(hB:BulkOk bulk):Opens enc Tryz.prog w bulk BB 113 cClu smallK:=
 (Opens.struct hB Tryz.underlying113 (by kernel_rfl) (.cons (size:=1) rfl (by kernel_rfl) (Z0k hB) (.cons (size:=1) rfl (by kernel_rfl) (Zsm hB) (.cons (size:=1) rfl (by kernel_rfl) (Zso hB) (.cons (size:=1) rfl (by kernel_rfl) (Z2k hB) .nil))))).imp (fun x=>⟨x.1,x.2.1,x.2.2.1,x.2.2.2.1⟩) (fun _=>rfl) (fun _ h=>⟨h.2.1.1,h.2.1.2,h.2.2.1.1,h.2.2.1.2,h.2.2.2.1⟩)
theorem Zue:smallK default:=⟨qe _,fun _=>qe _,qe _,fun _=>⟨qe _,qe _⟩,qe _⟩
theorem Zsn(hB:BulkOk bulk):Opens enc Tryz.prog w bulk BB 22 (fun l:List Clu=>[roL 4 cClu l]) smallKs:=
 (Opens.slice hB Tryz.underlying22 (by kernel_rfl) (by decide) (Zs3 hB)).imp id (fun _=>rfl) (fun _ h=>⟨h.1,Z73 h.2 Zue⟩)
theorem Zs5(hB:BulkOk bulk):Opens enc Tryz.prog w bulk BB 126 cDev smallD:=
 (Opens.struct hB Tryz.underlying126 (by kernel_rfl) (.cons (size:=1) rfl (by kernel_rfl) op_int (.cons (size:=1) rfl (by kernel_rfl) Zsz (.cons (size:=1) rfl (by kernel_rfl) op_int (.cons (size:=1) rfl (by kernel_rfl) Z5q (.cons (size:=1) rfl (by kernel_rfl) op_int (.cons (size:=1) rfl (by kernel_rfl) (Z0k hB) (.cons (size:=1) rfl (by kernel_rfl) (Z2k hB) .nil)))))))).imp
  (fun x=>⟨x.1,x.2.1,x.2.2.1,x.2.2.2.1,x.2.2.2.2.1,x.2.2.2.2.2.1,x.2.2.2.2.2.2.1⟩) (fun _=>rfl) (fun _ h=>⟨h.2.2.2.2.2.2.1,h.1.1,h.1.2⟩)
theorem Zsp(hB:BulkOk bulk):Opens enc Tryz.prog w bulk BB 23 (fun l:List Dev=>[roL 7 cDev l]) (fun l=>smallL l∧∀i,smallD (l.getD i default)):=
 (Opens.slice hB Tryz.underlying23 (by kernel_rfl) (by decide) (Zs5 hB)).imp id (fun _=>rfl) (fun _ h=>⟨h.1,Z73 h.2 ⟨qe _,by decide,by decide⟩⟩)
theorem Zsb(hB:BulkOk bulk):Opens enc Tryz.prog w bulk BB 25 cHom smallH:=
 (Opens.struct hB Tryz.underlying25 (by kernel_rfl) (.cons (size:=1) rfl (by kernel_rfl) (Zsn hB) (.cons (size:=1) rfl (by kernel_rfl) (Zsp hB) .nil))).imp (fun x=>⟨x.1,x.2.1⟩) (fun _=>rfl) (fun _ h=>⟨h.1,h.2.1.1,h.2.1.2⟩)
end
variable [Globals]
namespace Ex
end Ex
theorem Zhv:∀(l:List Ex) (k:Nat),k<l.length->sizeL (l.take (k+1))=sizeL (l.take k)+sizeE (l.getD k default)
 |e::l,0,_=>by simp[sizeL]
 |e::l,k+1,h=>by
  have:=Zhv l k (by simpa using h);simp only[List.take_succ_cons,sizeL,this,List.getD_cons_succ];omega
theorem Zht{l:List Ex}{e:Ex}(h:e∈l):sizeE e<=sizeL l:=by
 induction l with
 |nil=>simp at h
 |cons x l ih=>
  rw[sizeL];rcases qk.1 h with rfl|h
  ·omega
  have:=ih h;omega
theorem Zud{l:List Ex}:l.length<=sizeL l:=by
 induction l with
 |nil=>simp
 |cons x l ih=>rw[sizeL,Z26];simp;omega
theorem Zhs{l:List Ex}{k:Nat}:sizeL (l.take k)<=sizeL l:=by
 induction l generalizing k with
 |nil=>simp
 |cons x l ih=>
  cases k with
  |zero=>simp[sizeL]
  |succ k=>have:=@ih k;simp only[List.take_succ_cons,sizeL];omega
end Go.Abs
namespace Go.Abs
open Go.Proofs
set_option maxRecDepth 10000
theorem Z8d(e:Ex)(he:sizeE e<=1073741824):AC Tryz.prog 22 [.pv (.agg (cEx e))] [] (.pv (vint (sizeE e))) []:=by
 have hsz:=Z26 e;have hkl:=Zud (l:=e.kids);have ih:∀k,k<e.kids.length->AC Tryz.prog 22 [.pv (.agg (cEx (e.kids.getD k default)))] [] (.pv (vint (sizeE (e.kids.getD k default)))) []:=fun k hk=>
  have:=Ex.kid_lt (Ex.kid_at hk)
  Z8d (e.kids.getD k default) (by have:=Zht (Ex.kid_at hk);omega)
 refine AC.ex ?_;refine AC.of_awp (T:=T) T_ok hm Tryz.call22 Tryz.func22 rfl rfl rfl ?_
 conv=>whnf
 refine loop_k (ι:=Nat) [1] [1] (fun k=>k<=e.kids.length∧True) (fun k=>e.kids.length-k) 0 (fun k=>[(3,.pv (vint (1+sizeL (e.kids.take k)))),(4,.pv (vint k))]) (fun _=>[]) [] ⟨qe _,trivial⟩ ?_ (fun k hk=>?_)
 ·exact QD
 obtain⟨hkn,-⟩:=hk
 conv=>whnf
 have hle:=Zhs (l:=e.kids) (k:=k)
 repeat(any_goals((first|refine⟨QT ?_,QF ?_⟩<;>intro h<;>(try simp only[Q0,Q1,Q2,Q3,Q4,Q5,Q6,Q7,Q8,reduceCtorEq]at h)|refine .inl ⟨_,ih k (by omega),?_⟩|refine QI ?_)<;>conv=>whnf))
 ·have h1:k<e.kids.length:=by omega
  have hst:=Zhv e.kids k h1;have hmem:=Zhs (l:=e.kids) (k:=k+1);refine .inl ⟨wrap64 (by omega),?_⟩
  conv=>whnf
  refine .inl ⟨wrap64 (by omega),?_⟩
  conv=>whnf
  refine⟨k+1,[],⟨by omega,trivial⟩,by first|omega|(dsimp only;omega),?_⟩;(repeat'(first|exact QC|refine And.intro ?_ ?_));refine PSub.int ?_;omega
 refine PSub.int ?_;rw[List.take_of_length_le (by omega)];omega
termination_by SizeOf.sizeOf e
open Go.RowKit
section
variable {H:Type} (enc:TypeId×Value->H) (P:Program) (w:World) (bulk:DataW H->Nat) (B:Nat)
end
section
variable {H:Type} {enc:TypeId×Value->H} {P:Program} {w:World} {bulk:DataW H->Nat} {B:Nat}
theorem Opens.toU{t:TypeId}{α:Type}{cs:α->List PV}{good:α->Prop}{N:Nat}(h:Opens enc P w bulk B t cs good):OpensU enc P w bulk B N t cs good (fun _=>0):=by
 intro sp fuel vs x _ hx hb;obtain⟨a,h1,h2⟩:=h sp fuel vs x hx hb;exact⟨a,h1,qe _,h2⟩
end
open Go.Proofs Go.RowKit
section
variable {H:Type} {enc:TypeId×Value->H} {w:World} {bulk:DataW H->Nat}
theorem Zhu:∀l:List Ex,(l.map sizeE).sum=sizeL l
 | []=>rfl
 |e::l=>by rw[List.map_cons,List.sum_cons,sizeL,Zhu l]
theorem Zs9(hB:BulkOk bulk)(hS:BulkSum bulk):∀N,OpensU enc Tryz.prog w bulk BB N 61 cEx (fun _=>True) sizeE:=by
 have step:∀N,OpensU enc Tryz.prog w bulk BB N 61 cEx (fun _=>True) sizeE->OpensU enc Tryz.prog w bulk BB (N+1+1) 61 cEx (fun _=>True) sizeE:=by
  intro N ih;have hk:=OpensU.slice hB hS (t:=59) Tryz.underlying59 (size:=11) (by kernel_rfl) (by decide) ih;refine(OpensU.struct hB hS Tryz.underlying61 (by kernel_rfl) (.cons (size:=1) rfl (by kernel_rfl) op_int.toU (.cons (size:=1) rfl (by kernel_rfl) op_int.toU (.cons (size:=1) rfl (by kernel_rfl) op_int.toU (.cons (size:=1) rfl (by kernel_rfl) (Z0k hB).toU
   (.cons (size:=3) rfl (by kernel_rfl) (Zae hB).toU (.cons (size:=3) rfl (by kernel_rfl) (op_Key hB).toU (.cons (size:=1) rfl (by kernel_rfl) hk .nil)))))))).imp (fun x=>.mk x.1 x.2.1 x.2.2.1 x.2.2.2.1 x.2.2.2.2.1 x.2.2.2.2.2.1 x.2.2.2.2.2.2.1) (fun a _ vs hr=>?_) (fun _ _=>trivial) (fun a=>?_)
  ·exact Reads.sub hr ⟨.rfl,.rfl,.rfl,.rfl,.rfl,.rfl,.rfl,.rfl,.rfl,.rfl,PSub.kids',trivial⟩
  ·rw[Z26,<-Zhu];dsimp only[Ex.kids];omega
 intro N
 induction N using Nat.strongRecOn with
 |_ N ih=>
  match N with
  |0=>
   intro sp fuel vs x hf hx hb;exact step 0 (fun sp fuel vs x hf hx hb=>by
    obtain rfl:fuel=0:=by omega
    simp[DataW.trod]at hx) sp fuel vs x (by omega) hx hb
  |1=>
   intro sp fuel vs x hf hx hb;exact step 0 (ih 0 (by omega)) sp fuel vs x (by omega) hx hb
  |N+2=>exact step N (ih N (by omega))
theorem Zgl(hB:BulkOk bulk)(hS:BulkSum bulk):Opens enc Tryz.prog w bulk BB 61 cEx (fun e=>sizeE e<=1048576):=
 (OpensU.all (Zs9 hB hS)).imp id (fun _=>rfl) (fun _ h=>h.2)
theorem Zsg(hB:BulkOk bulk):Opens enc Tryz.prog w bulk BB 28 cSco smallS:=
 (Opens.struct hB Tryz.underlying28 (by kernel_rfl) (.cons (size:=2) rfl (by kernel_rfl) (Zsb hB) (.cons (size:=1) rfl (by kernel_rfl) (Z2k hB) (.cons (size:=1) rfl (by kernel_rfl) (Z2k hB) .nil)))).imp (fun x=>⟨x.1,x.2.1,x.2.2.1⟩) (fun _=>rfl) (fun _ h=>⟨h.1,h.2.1,h.2.2.1⟩)
theorem Zs7(hB:BulkOk bulk):Opens enc Tryz.prog w bulk BB 109 (fun x:Evt=>[vint x.dev,vstr x.cluster,vstr x.name]) (fun _=>True):=
 (Opens.struct hB Tryz.underlying109 (by kernel_rfl) (.cons (size:=1) rfl (by kernel_rfl) op_int (.cons (size:=1) rfl (by kernel_rfl) (Z0k hB) (.cons (size:=1) rfl (by kernel_rfl) (Z0k hB) .nil)))).imp (fun x=>⟨x.1,x.2.1,x.2.2.1⟩) (fun _=>rfl) (fun _ _=>trivial)
theorem Zsj(hB:BulkOk bulk):Opens enc Tryz.prog w bulk BB 120 cTrg (fun _=>True):=
 (Opens.struct hB Tryz.underlying120 (by kernel_rfl) (.cons (size:=1) rfl (by kernel_rfl) op_int (.cons (size:=3) rfl (by kernel_rfl) (op_Key hB) (.cons (size:=3) rfl (by kernel_rfl) (Zs7 hB) (.cons (size:=1) rfl (by kernel_rfl) (Z0k hB) (.cons (size:=1) rfl (by kernel_rfl) op_int (.cons (size:=1) rfl (by kernel_rfl) op_int .nil))))))).imp
  (fun x=>⟨x.1,x.2.1,x.2.2.1,x.2.2.2.1,x.2.2.2.2.1,x.2.2.2.2.2.1⟩) (fun _=>rfl) (fun _ _=>trivial)
theorem Zsy(hB:BulkOk bulk):Opens enc Tryz.prog w bulk BB 54 (fun l:List Trg=>[roL 10 cTrg l]) smallL:=
 (Opens.slice hB Tryz.underlying54 (by kernel_rfl) (by decide) (Zsj hB)).imp id (fun _=>rfl) (fun _ h=>h.1)
theorem Zsi(hB:BulkOk bulk)(hS:BulkSum bulk):Opens enc Tryz.prog w bulk BB 79 cStp (fun x=>sizeE x.expr<=1048576):=
 (Opens.struct hB Tryz.underlying79 (by kernel_rfl) (.cons (size:=1) rfl (by kernel_rfl) op_int (.cons (size:=3) rfl (by kernel_rfl) (op_Key hB) (.cons (size:=1) rfl (by kernel_rfl) (Z0k hB) (.cons (size:=11) rfl (by kernel_rfl) (Zgl hB hS) .nil))))).imp (fun x=>⟨x.1,x.2.1,x.2.2.1,x.2.2.2.1⟩) (fun _=>rfl) (fun _ h=>h.2.2.2.1)
theorem Zsx(hB:BulkOk bulk)(hS:BulkSum bulk):Opens enc Tryz.prog w bulk BB 62 (fun l:List Stp=>[roL 16 cStp l]) (fun l=>smallL l∧∀i,i<l.length->sizeE (l.getD i default).expr<=1048576):=
 (Opens.slice hB Tryz.underlying62 (by kernel_rfl) (by decide) (Zsi hB hS)).imp id (fun _=>rfl) (fun _ h=>h)
theorem Zse(hB:BulkOk bulk)(hS:BulkSum bulk):Opens enc Tryz.prog w bulk BB 64 cRul goodRulO:=
 (Opens.struct hB Tryz.underlying64 (by kernel_rfl) (.cons (size:=1) rfl (by kernel_rfl) (Z0k hB) (.cons (size:=1) rfl (by kernel_rfl) op_int (.cons (size:=1) rfl (by kernel_rfl) (Zsy hB) (.cons (size:=11) rfl (by kernel_rfl) (Zgl hB hS) (.cons (size:=1) rfl (by kernel_rfl) (Zsx hB hS) .nil)))))).imp
  (fun x=>⟨x.1,x.2.1,x.2.2.1,x.2.2.2.1,x.2.2.2.2.1⟩) (fun _=>rfl) (fun _ h=>⟨qF h.2.2.2.1 (by decide),fun i hi=>qF (h.2.2.2.2.1.2 i hi) (by decide)⟩)
theorem Zsu(hB:BulkOk bulk)(hS:BulkSum bulk):Opens enc Tryz.prog w bulk BB 30 (fun l:List Rul=>[roL 15 cRul l]) (fun l=>smallL l∧∀i,i<l.length->goodRulO (l.getD i default)):=
 (Opens.slice hB Tryz.underlying30 (by kernel_rfl) (by decide) (Zse hB hS)).imp id (fun _=>rfl) (fun _ h=>h)
end
end Go.Abs
namespace Go.Proofs.YtipbekclhmbclaaGreatDoor
open Go.ChangeShapes Go.WideShapes Go.ChangeAt Go.RowKit Go.Abs
theorem bulkSum{H:Type}:BulkSum (Rows.uptoBulk (H:=H)):=by
 have all:∀l:List (DataW H),Rows.uptoBulkAll l=(l.map Rows.uptoBulk).sum:=by
  intro l
  induction l with
  |nil=>rfl
  |cons x r ih=>simp only[Rows.uptoBulkAll,List.map_cons,List.sum_cons,ih]
 refine⟨fun e s=>?_,fun l=>?_⟩
 ·simp only[Rows.uptoBulk,all];omega
 simp only[Rows.uptoBulk,all];omega
end Go.Proofs.YtipbekclhmbclaaGreatDoor
namespace Go.Abs
open Go.Proofs
def effKeys(x:Stp)(d:Cmd):List Key:=d.effects.map fun f=>⟨x.key.dev,x.key.cluster,f.attr⟩
def targL(s:Sco)(x:Stp):List Key:=if x.kind=1 then [x.key]else if x.kind=2 then effKeys x ((comO s x).getD noCmd)else []
theorem Z8v{n:Nat}{p:Nat->Bool}(h:anyN n p=false)(i:Nat)(hi:i<n):p i=false:=by
 cases e:p i with
 |false=>rfl
 |true=>rw[Z0a hi e]at h;cases h
theorem cmd_ok{c:Clu}(h:checkE c=0){i:Nat}(hi:i<c.commands.length):cmdE c i=0:=by
 unfold checkE at h
 split at h
 ·cases h
 split at h
 ·cases h
 split at h
 ·rename_i h1;exact absurd h h1
 split at h
 ·rename_i h1;exact absurd h h1
 rename_i h1;exact Z1d (by simpa using h1) i hi
theorem eff_ok{c:Clu}{i:Nat}(h:cmdE c i=0):∀f∈(c.commands.getD i default).effects,attrAt c.attrs f.attr<c.attrs.length∧(attrOf c.attrs f.attr).writable=true:=by
 intro f hf;unfold cmdE at h
 split at h
 ·cases h
 split at h
 ·cases h
 split at h
 ·cases h
 split at h
 ·rename_i h1;exact absurd h h1.2
 obtain⟨j,hj,rfl⟩:=qp hf;have:=Z1d h j hj;rw[Z03 _ _ hj]at this;unfold effE at this
 split at this
 ·cases this
 split at this
 ·cases this
 rename_i h2
 split at this
 ·cases this
 rename_i h3;exact⟨by simpa using h2,by simpa using h3⟩
theorem Zin{s:Sco}{x:Stp}(h:doE s x=0):∀k∈targL s x,((findA s.home k).getD noAttr).writable=true:=by
 intro k hk;unfold targL at hk
 by_cases k1:x.kind=1
 ·rw[qK k1]at hk;simp only[List.mem_singleton]at hk;subst hk;rw[doE,qK k1]at h
  split at h
  ·cases h
  split at h
  ·cases h
  rename_i h2;simpa using h2
 rw[qJ k1]at hk
 by_cases k2:x.kind=2
 ·rw[qK k2]at hk;rw[doE,qJ k1,qK k2,comE]at h;cases hc:comO s x with
  |none=>rw[hc]at h;cases h
  |some d=>
   rw[hc,Option.getD_some]at hk;obtain⟨f,hf,rfl⟩:=List.mem_map.1 hk;unfold comO at hc;cases hp:partO s.home x.key.dev x.key.cluster with
   |none=>rw[hp]at hc;cases hc
   |some c=>
    rw[hp]at hc;dsimp only at hc
    split at hc
    ·rename_i hlt;cases hc;rw[cmdOf,qK hlt]at hf;have hp0:=hp;unfold partO at hp
     split at hp
     ·rename_i hb;have hh:homE s.home=0:=by
       have:=hb.1;unfold findB at this;simp only[qc,Q0]at this;exact this.1
      obtain⟨g1,g2⟩:=eff_ok (cmd_ok (clu_ok hh (List.mem_of_find?_eq_some hp)) hlt) f hf;have e:findA s.home ⟨x.key.dev,x.key.cluster,f.attr⟩=some (c.attrs.getD (attrAt c.attrs f.attr) default):=by
       unfold findA;dsimp only;rw[hp0,attrO,if_pos g1]
      rw[e,Option.getD_some];rw[attrOf,qK g1]at g2;exact g2
     cases hp
    cases hc
 rw[qJ k2]at hk;cases hk
theorem idxOf_in{l:List ByteArray}{x:ByteArray}:0≤idxOf l x↔x∈l:=by
 unfold idxOf
 cases hf:l.findIdx? (· = x)with
 |none=>
  rw[List.findIdx?_eq_none_iff]at hf
  refine⟨fun h=>absurd h (by simp),fun h=>absurd (hf x h) (by simp)⟩
 |some i=>
  obtain⟨hi,h,_⟩:=List.findIdx?_eq_some_iff_getElem.1 hf
  refine⟨fun _=>?_,fun _=>by simp⟩
  have:l[i]=x:=by simpa using h
  exact this▸List.getElem_mem hi
open Go.Proofs Go.RowKit
section
variable {H:Type} {enc:TypeId×Value->H} {w:World} {bulk:DataW H->Nat}
theorem Zss(hB:BulkOk bulk):Opens enc Tryz.prog w bulk BB 35 (fun l:List Key=>[roL 3 cKey l]) smallL:=
 (Opens.slice hB Tryz.underlying35 (by kernel_rfl) (by decide) (op_Key hB)).imp id (fun _=>rfl) (fun _ h=>h.1)
theorem Zsf(hB:BulkOk bulk):Opens enc Tryz.prog w bulk BB 76 cSce (fun s=>goodItems s.items):=
 (Opens.struct hB Tryz.underlying76 (by kernel_rfl) (.cons (size:=1) rfl (by kernel_rfl) (Z0k hB) (.cons (size:=1) rfl (by kernel_rfl) (Zgm hB) .nil))).imp (fun x=>⟨x.1,x.2.1⟩) (fun _=>rfl) (fun _ h=>h.2.1)
end
theorem Z4s{s:Sco}{l:List Rul}(h:runE s l=0):scoE s=0∧(rulesE s l).2=0:=by
 unfold runE at h
 split at h
 ·rename_i h1;exact absurd h h1
 rename_i h1;exact⟨by simpa using h1,h⟩
theorem Z7h(v:Vw)(h:Hap)(l:List Rul):(ranL v h l).Sublist l:=List.filter_sublist
theorem Zuc{s:Sco}{v:Vw}{x:Stp}{c:Cause}{i:Int}(hx:x.kind=1)(h:doE s x=0){w:Write}(hw:w∈setW s v x c i):GoodW s w∧w.cause=c:=by
 unfold setW at hw
 split at hw
 ·rename_i h1;simp only[List.mem_singleton]at hw;subst hw;refine⟨⟨h1.1,?_,h1.2.2⟩,rfl⟩;exact Zin h _ (by rw[targL,qK hx];simp)
 cases hw
theorem Zu9{s:Sco}{sc:List Scene}{x:Stp}{c:Cause}{i:Int}{w:Write}(hw:w∈sceW s sc x c i):GoodW s w∧w.cause=c:=by
 unfold sceW at hw
 split at hw
 ·rename_i h1;obtain⟨u,hu,rfl⟩:=List.mem_map.1 hw;unfold applyS at hu;obtain⟨j,hj,rfl⟩:=List.mem_map.1 hu;have hj:=List.mem_range.1 hj;have h2:=h1.2;unfold checkS at h2
  split at h2
  ·rename_i k;exact absurd h2 k
  split at h2
  ·cases h2
  split at h2
  ·cases h2
  have h3:=Z1d h2 j hj;unfold sceE at h3
  split at h3
  ·cases h3
  rename_i k1
  split at h3
  ·cases h3
  rename_i k2
  split at h3
  ·rename_i k3;exact absurd h3 k3
  rename_i k3;rw[Bool.not_eq_false]at k1 k2;exact⟨⟨k1,k2,Classical.not_not.1 k3⟩,rfl⟩
 cases hw
theorem Zop{s:Sco}{x:Stp}{k:Clu}(h:CluOf s x k){j:Nat}(hj:j<k.attrs.length):findA s.home (keyX x.key.dev k j)=some (k.attrs.getD j default):=by
 unfold findA keyX;dsimp only;rw[h.name,h.part];have e:attrAt k.attrs (k.attrs.getD j default).name=j:=Zd5 h.chk hj rfl;rw[attrO,e,if_pos hj]
theorem Zcz{c:Clu}{d:Cmd}{p:Val}{vals:List Val}{j:Nat}:∀n,(∀i,i<n->attrAt c.attrs (d.effects.getD i default).attr≠j)->(applyTo c d p vals n).getD j default=vals.getD j default
 |0,_=>rfl
 |n+1,h=>by
  rw[applyTo,stepL,Z9r,qJ (fun e=>h n (by omega) e.1.symm)];exact Zcz n fun i hi=>h i (by omega)
theorem aft_ok{s:Sco}{v:Vw}{x:Stp}{k:Clu}(h:CluOf s x k){j:Nat}(hj:j<(aftL v x k).length) :
  j<k.attrs.length∧fitsE (k.attrs.getD j default) ((aftL v x k).getD j default)=0∧((aftL v x k).getD j default≠(bfrL v.items x.key.dev k k.attrs.length).getD j default->(k.attrs.getD j default).writable=true):=by
 unfold aftL applyL at hj ⊢
 split at hj
 ·rename_i h0;rw[qK h0];unfold applyE at h0
  split at h0
  ·rename_i q;exact absurd h0 q
  split at h0
  ·cases h0
  split at h0
  ·rename_i q;exact absurd h0 q
  rename_i hacc;have hacc:=Classical.not_not.1 hacc
  split at h0
  ·cases h0
  rename_i hlen
  split at h0
  ·cases h0
  rename_i hbad;have hlen:=Classical.not_not.1 hlen;have hfa:fitsAll k (bfrL v.items x.key.dev k k.attrs.length):=⟨hlen,fun i hi=>by
   have:=Z8v (Bool.not_eq_true _▸hbad) i (by rw[hlen];exact hi);unfold badV at this;simpa using this⟩
  have heff:=Z6l h.chk h.cmd;have hfin:=Z42 heff hacc hfa _ (qL _);have hj2:j<k.attrs.length:=by rw[<-hfin.1];exact hj
  refine⟨hj2,hfin.2 j hj2,fun hne=>?_⟩;cases hw:(k.attrs.getD j default).writable with
  |true=>rfl
  |false=>
   exfalso;apply hne;refine Zcz _ fun i hi e=>?_
   have hc:=cmd_ok (clu_ok h.home h.mem) h.cmd;have hm:(cmdOf k.commands x.name).effects.getD i default∈(k.commands.getD (cmdAt k.commands x.name) default).effects:=by
    rw[cmdOf,qK h.cmd]at hi ⊢;rw[Z03 _ _ hi];exact qE hi
   obtain⟨g1,g2⟩:=eff_ok hc _ hm;rw[attrOf,qK g1,e,hw]at g2;cases g2
 ·cases hj
theorem Zos{s:Sco}{v:Vw}{x:Stp}{c:Cause}{i:Int}(hx:x.kind=2)(h:doE s x=0){w:Write}(hw:w∈callW s v x c i):GoodW s w∧w.cause=c:=by
 obtain⟨k,hk⟩:=clu_of hx h;have ek:cluX s x=k:=by unfold cluX;rw[hk.part];rfl
 unfold callW at hw;rw[ek]at hw;obtain⟨j,hj,hw⟩:=List.mem_flatMap.1 hw;have hj:=List.mem_range.1 hj;obtain⟨g1,g2,g3⟩:=aft_ok hk hj;unfold chgW at hw
 split at hw
 ·rename_i hne;simp only[List.mem_singleton]at hw;subst hw;have e:=Zop hk g1;refine⟨⟨by rw[e];rfl,?_,?_⟩,rfl⟩
  ·rw[e];exact g3 hne
  rw[e];exact g2
 cases hw
theorem Zvg{s:Sco}{sc:List Scene}{v:Vw}{c:Cause}{x:Stp}{i:Int}(h:doE s x=0){w:Write}(hw:w∈stpW s sc v c x i):GoodW s w∧w.cause=c:=by
 unfold stpW at hw
 split at hw
 ·exact Zuc ‹_› h hw
 split at hw
 ·exact Zos ‹_› h hw
 split at hw
 ·exact Zu9 hw
 cases hw
theorem mem_isortR{l:List Write}{w:Write}:w∈isortR ordW l↔w∈l:=Stb.mem Z7v (Z1e Z7v l) w
theorem Zu4{s:Sco}{sc:List Scene}{v:Vw}{h:Hap}{l:List Rul}(ho:runE s l=0){w:Write}(hw:w∈(runO s sc v h l).writes):GoodW s w∧w.cause.kind=2∧w.cause.name∈(runO s sc v h l).ran:=by
 have hr:=(Z2n s l).1 (Z4s ho).2;have hw:w∈allW s sc v (ranL v h l):=mem_isortR.1 hw;obtain⟨r,hr1,hw⟩:=List.mem_flatMap.1 hw;obtain⟨i,hi,hw⟩:=List.mem_flatMap.1 hw;have hi:=List.mem_range.1 hi;have hr2:=(Z7h v h l).subset hr1;obtain⟨g1,g2⟩:=Zvg ((Z1f (hr.2.1 r hr2)).2.2.2 i hi) hw;refine⟨g1,by rw[g2];rfl,?_⟩;rw[g2];exact mem_sortS.2 (List.mem_map.2 ⟨r,hr1,rfl⟩)
theorem Ztz{s:Sco}{sc:List Scene}{v:Vw}{h:Hap}{l:List Rul}(ho:runE s l=0){w:Write}(hw:w∈(runO s sc v h l).modes):w.value.s∈s.modes∧w.cause.name∈(runO s sc v h l).ran:=by
 have hr:=(Z2n s l).1 (Z4s ho).2;have hw:w∈allM (ranL v h l):=mem_isortR.1 hw;obtain⟨r,hr1,hw⟩:=List.mem_flatMap.1 hw;obtain⟨i,hi,hw⟩:=List.mem_flatMap.1 hw;have hi:=List.mem_range.1 hi;have hr2:=(Z7h v h l).subset hr1;have hd:=(Z1f (hr.2.1 r hr2)).2.2.2 i hi;unfold stpM at hw
 split at hw
 ·rename_i hk;simp only[List.mem_singleton]at hw;subst hw;refine⟨?_,mem_sortS.2 (List.mem_map.2 ⟨r,hr1,rfl⟩)⟩;rw[doE,qJ (by omega),qJ (by omega),qJ (by omega),qK hk]at hd
  split at hd
  ·rename_i h2;exact idxOf_in.1 h2
  cases hd
 cases hw
theorem Zu3{s:Sco}{sc:List Scene}{v:Vw}{h:Hap}{l:List Rul}{i:Nat}(hi:i+1<(runO s sc v h l).writes.length):keyLess ((runO s sc v h l).writes.getD (i+1) default).key ((runO s sc v h l).writes.getD i default).key=false:=by
 have hs:SrtO ordW (runO s sc v h l).writes:=(Z1e Z7v _).1;have:=List.pairwise_iff_getElem.1 hs i (i+1) (by omega) hi (by omega);rw[Z03 _ _ hi,Z03 _ _ (show i<_ by omega)];unfold ordW at this
 split at this
 ·exact this
 rename_i e;have e:=Classical.not_not.1 e;rw[e];exact Z15 _
theorem Z2i(l:List Write):(isortR ordW l).length=l.length:=Z4l l
theorem Z5y{s:Sco}{sc:List Scene}{v:Vw}{h:Hap}{l:List Rul}:shortO (runR s sc v h l):=by
 unfold runR;split
 ·rename_i he;have ok:=(Z2n s l).1 (Z4s he).2;have h40:=ok.1;have hl:=Z7i (sc:=sc) (v:=v) (h:=h) ok.2.1 l.length (qL _);have a:=hl.w;have b:=hl.m;have c:=hl.r;have d:=hl.n;rw[Zax];refine⟨?_,?_,?_,?_⟩
  ·show(isortR _ _).length<=_;rw[Z2i];omega
  ·show(isortR _ _).length<=_;rw[Z2i];omega
  ·have:=Z32 (rawK s sc v h l l.length).ran;show(sortS _).length<=_;omega
  have:=Z32 (rawK s sc v h l l.length).notes;show(sortS _).length<=_;omega
 exact⟨by decide,by decide,by decide,by decide⟩
set_option maxRecDepth 10000
section
variable {H:Type} {enc:TypeId×Value->H} {w:World} {bulk:DataW H->Nat}
theorem Zsh(hB:BulkOk bulk):Opens enc Tryz.prog w bulk BB 310 cSpn (fun _=>True):=
 (Opens.struct hB Tryz.underlying310 (by kernel_rfl) (.cons (size:=1) rfl (by kernel_rfl) op_int (.cons (size:=1) rfl (by kernel_rfl) op_int .nil))).imp (fun x=>⟨x.1,x.2.1⟩) (fun _=>rfl) (fun _ _=>trivial)
theorem Zsw(hB:BulkOk bulk):Opens enc Tryz.prog w bulk BB 103 (fun l:List Spn=>[roL 2 cSpn l]) smallL:=
 (Opens.slice hB Tryz.underlying103 (by kernel_rfl) (by decide) (Zsh hB)).imp id (fun _=>rfl) (fun _ h=>h.1)
theorem Zsd(hB:BulkOk bulk):Opens enc Tryz.prog w bulk BB 105 cMem (fun _=>True):=
 (Opens.struct hB Tryz.underlying105 (by kernel_rfl) (.cons (size:=1) rfl (by kernel_rfl) (Z0k hB) (.cons (size:=1) rfl (by kernel_rfl) op_int (.cons (size:=1) rfl (by kernel_rfl) (Zsw hB) (.cons (size:=1) rfl (by kernel_rfl) (Z2k hB) (.cons (size:=1) rfl (by kernel_rfl) Z5q .nil)))))).imp
  (fun x=>⟨x.1,x.2.1,x.2.2.1,x.2.2.2.1,x.2.2.2.2.1⟩) (fun _=>rfl) (fun _ _=>trivial)
theorem Zst(hB:BulkOk bulk):Opens enc Tryz.prog w bulk BB 32 (fun l:List Mem=>[roL 5 cMem l]) smallL:=
 (Opens.slice hB Tryz.underlying32 (by kernel_rfl) (by decide) (Zsd hB)).imp id (fun _=>rfl) (fun _ h=>h.1)
theorem Zsk(hB:BulkOk bulk):Opens enc Tryz.prog w bulk BB 34 cVw smallV2:=
 (Opens.struct hB Tryz.underlying34 (by kernel_rfl) (.cons (size:=1) rfl (by kernel_rfl) (Zgm hB) (.cons (size:=1) rfl (by kernel_rfl) (Z0k hB) (.cons (size:=1) rfl (by kernel_rfl) op_int (.cons (size:=1) rfl (by kernel_rfl) (Zst hB) .nil))))).imp
  (fun x=>⟨x.1,x.2.1,x.2.2.1,x.2.2.2.1⟩) (fun _=>rfl) (fun _ h=>⟨h.1.1,h.2.2.2.1⟩)
theorem Zs8(hB:BulkOk bulk):Opens enc Tryz.prog w bulk BB 109 cKey (fun _=>True):=
 (Opens.struct hB Tryz.underlying109 (by kernel_rfl) (.cons (size:=1) rfl (by kernel_rfl) op_int (.cons (size:=1) rfl (by kernel_rfl) (Z0k hB) (.cons (size:=1) rfl (by kernel_rfl) (Z0k hB) .nil)))).imp (fun x=>⟨x.1,x.2.1,x.2.2.1⟩) (fun _=>rfl) (fun _ _=>trivial)
theorem Zsr(hB:BulkOk bulk):Opens enc Tryz.prog w bulk BB 36 (fun l:List Key=>[roL 3 cKey l]) smallL:=
 (Opens.slice hB Tryz.underlying36 (by kernel_rfl) (by decide) (Zs8 hB)).imp id (fun _=>rfl) (fun _ h=>h.1)
theorem Zsa(hB:BulkOk bulk):Opens enc Tryz.prog w bulk BB 38 cHap smallHp:=
 (Opens.struct hB Tryz.underlying38 (by kernel_rfl) (.cons (size:=1) rfl (by kernel_rfl) (Zss hB) (.cons (size:=1) rfl (by kernel_rfl) (Zsr hB) (.cons (size:=1) rfl (by kernel_rfl) op_int (.cons (size:=1) rfl (by kernel_rfl) op_int (.cons (size:=1) rfl (by kernel_rfl) (Z0k hB) (.cons (size:=1) rfl (by kernel_rfl) Z5q (.cons (size:=1) rfl (by kernel_rfl) (Z2k hB) .nil)))))))).imp
  (fun x=>⟨x.1,x.2.1,x.2.2.1,x.2.2.2.1,x.2.2.2.2.1,x.2.2.2.2.2.1,x.2.2.2.2.2.2.1⟩) (fun _=>rfl) (fun _ h=>⟨h.1,h.2.1,h.2.2.2.2.2.2.1⟩)
theorem Zsv(hB:BulkOk bulk):Opens enc Tryz.prog w bulk BB 29 (fun l:List Scene=>[roL 2 cSce l]) smallSc:=
 (Opens.slice hB Tryz.underlying29 (by kernel_rfl) (by decide) (Zsf hB)).imp id (fun _=>rfl) (fun _ h=>⟨h.1,fun i hi=>(h.2 i hi).1⟩)
theorem Zz0(hB:BulkOk bulk)(hS:BulkSum bulk):Opens enc Tryz.prog w bulk BB 40 cRuC smallRuC:=
 (Opens.struct hB Tryz.underlying40 (by kernel_rfl) (.cons (size:=4) rfl (by kernel_rfl) (Zsg hB) (.cons (size:=1) rfl (by kernel_rfl) (Zsv hB) (.cons (size:=1) rfl (by kernel_rfl) (Zsu hB hS) (.cons (size:=4) rfl (by kernel_rfl) (Zsk hB) (.cons (size:=7) rfl (by kernel_rfl) (Zsa hB) .nil)))))).imp
  (fun x=>⟨x.1,x.2.1,x.2.2.1,x.2.2.2.1,x.2.2.2.2.1⟩) (fun _=>rfl) (fun _ h=>⟨h.1,h.2.1,h.2.2.1,h.2.2.2.1,h.2.2.2.2.1⟩)
end
def ruleH(r:Rul):Bool:=decide (12<r.on.length)||decide (12<r.steps.length)||decide (300<sizeE r.cond)||anyN r.steps.length fun i=>decide (300<sizeE (r.steps.getD i default).expr)
def bigC(c:RuC):Bool:=decide (100<c.s.home.clusters.length∨30<c.s.home.devices.length∨30<c.s.modes.length∨300<c.s.scenes.length∨20<c.sc.length∨20<c.l.length∨100<c.v.items.length∨30<c.v.members.length∨50<c.h.changed.length∨50<c.h.events.length∨50<c.h.held.length)
def greatR(c:RuC):Bool:=bigC c ||(anyN c.sc.length fun i=>decide (60<(c.sc.getD i default).items.length))||anyN c.l.length fun i=>ruleH (c.l.getD i default)
set_option maxHeartbeats 4000000 in
theorem Z50(c:RuC)(hc:smallRuC c):AC Tryz.prog 9 [.pv (.agg (cRuC c))] [] (.pv (vbool (greatR c))) []:=by
 have hbig:bigC c=true->greatR c=true:=fun h=>by unfold greatR;rw[h];rfl
 unfold bigC at hbig;rw[Q0]at hbig;have hl:=hc.l.2;refine AC.of_awp (T:=T) T_ok hm Tryz.call9 Tryz.func9 rfl rfl rfl ?_
 conv=>whnf
 repeat(any_goals((first|refine⟨QT ?_,QF ?_⟩<;>intro h<;>(try simp only[Q0,Q1,Q2,Q3,Q4,Q5,Q6,Q7,Q8,reduceCtorEq]at h))<;>conv=>whnf))
 all_goals first
  |(exact PSub.lit_sb (hbig (by omega)).symm)
  |skip
 have hb:bigC c=false:=qG (by omega);have hcut:greatR c=((anyN c.sc.length fun i=>decide (60<(c.sc.getD i default).items.length))||anyN c.l.length fun i=>ruleH (c.l.getD i default)):=by
  unfold greatR;rw[hb,Bool.false_or]
 rw[hcut];clear hcut hb hbig;refine loop_k (ι:=Nat) [1] [1] (fun k=>k<=c.sc.length∧(∀j,j<k->decide (60<(c.sc.getD j default).items.length)=false)) (fun k=>c.sc.length-k) 0 (fun k=>[(3,.pv (vint k))]) (fun _=>[]) [] ⟨qe _,fun j h=>absurd h (by omega)⟩ ?_ (fun k hk=>?_)
 ·exact QD
 obtain⟨hkn,hinv⟩:=hk
 conv=>whnf
 repeat(any_goals((first|refine⟨QT ?_,QF ?_⟩<;>intro h<;>(try simp only[Q0,Q1,Q2,Q3,Q4,Q5,Q6,Q7,Q8,reduceCtorEq]at h)|refine QI ?_|refine .inl ⟨wrap64 (by omega),?_⟩)<;>conv=>whnf))
 ·refine PSub.lit_sb ?_;rw[Z0a (k:=k) (by omega) (qB (by omega)),Bool.true_or]
 ·refine⟨k+1,[],⟨by omega,?_⟩,by first|omega|(dsimp only;omega),?_⟩;rotate_left
  ·exact QD
  intro j hj
  by_cases e:j=k
  ·subst e;exact qG (by omega)
  exact hinv j (by omega)
 have hn0:(anyN c.sc.length fun i=>decide (60<(c.sc.getD i default).items.length))=false:=Z0d fun j hj=>hinv j (by omega)
 rw[hn0,Bool.false_or];clear hinv hn0;refine loop_k (ι:=Nat) [1] [1] (fun k=>k<=c.l.length∧(∀j,j<k->ruleH (c.l.getD j default)=false)) (fun k=>c.l.length-k) 0 (fun k=>[(4,.pv (vint k))]) (fun _=>[]) [] ⟨qe _,fun j h=>absurd h (by omega)⟩ ?_ (fun k hk=>?_)
 ·exact QD
 obtain⟨hkn,hinv⟩:=hk
 conv=>whnf
 refine⟨fun h=>?_,fun h=>?_⟩<;>(try simp only[Q0,Q1,Q2,Q3,Q4,Q5,Q6,Q7,Q8,reduceCtorEq]at h)<;>(conv=>whnf)
 ·have hg:=hl k (by omega)
  repeat(any_goals((first|refine⟨QT ?_,QF ?_⟩<;>intro h<;>(try simp only[Q0,Q1,Q2,Q3,Q4,Q5,Q6,Q7,Q8,reduceCtorEq]at h)|refine .inl ⟨_,Z8d (c.l.getD k default).cond hg.1,?_⟩|refine QI ?_)<;>conv=>whnf))
  ·exact PSub.lit_sb (Z0a (k:=k) (by omega) (by unfold ruleH;rw[qB (show 12<(c.l.getD k default).on.length by omega)];rfl)).symm
  ·exact PSub.lit_sb (Z0a (k:=k) (by omega) (by unfold ruleH;rw[qB (show 12<(c.l.getD k default).steps.length by omega),Bool.or_true];rfl)).symm
  ·exact PSub.lit_sb (Z0a (k:=k) (by omega) (by unfold ruleH;rw[qB (show 300<sizeE (c.l.getD k default).cond by omega),Bool.or_true];rfl)).symm
  have hrg:ruleH (c.l.getD k default)=anyN (c.l.getD k default).steps.length fun i=>decide (300<sizeE ((c.l.getD k default).steps.getD i default).expr):=by
   unfold ruleH;rw[qG (by omega),qG (by omega),qG (by omega)];rfl
  have hinv0:=hinv;have hkn0:=hkn;refine loop_k (ι:=Nat) [1,4,5] [1,5] (fun q=>q<=(c.l.getD k default).steps.length∧∀j,j<q->decide (300<sizeE ((c.l.getD k default).steps.getD j default).expr)=false) (fun q=>(c.l.getD k default).steps.length-q) 0 (fun q=>[(6,.pv (vint q))]) (fun _=>[]) [] ⟨qe _,fun j h=>absurd h (by omega)⟩ ?_ (fun q hk=>?_)
  ·exact QD
  obtain⟨hkn,hinv⟩:=hk
  conv=>whnf
  refine⟨fun h=>?_,fun h=>?_⟩<;>(try simp only[Q0,Q1,Q2,Q3,Q4,Q5,Q6,Q7,Q8,reduceCtorEq]at h)<;>(conv=>whnf)
  ·have hg2:=hg.2 q (by omega)
   repeat(any_goals((first|refine⟨QT ?_,QF ?_⟩<;>intro h<;>(try simp only[Q0,Q1,Q2,Q3,Q4,Q5,Q6,Q7,Q8,reduceCtorEq]at h)|refine .inl ⟨_,Z8d ((c.l.getD k default).steps.getD q default).expr hg2,?_⟩|refine QI ?_|refine .inl ⟨wrap64 (by omega),?_⟩)<;>conv=>whnf))
   ·exact PSub.lit_sb (Z0a (k:=k) (by omega) (by rw[hrg];exact Z0a (k:=q) (by omega) (qB (by omega)))).symm
   refine⟨q+1,[],⟨by omega,?_⟩,by first|omega|(dsimp only;omega),?_⟩;rotate_left
   ·exact QD
   intro j hj
   by_cases e:j=q
   ·subst e;exact qG (by omega)
   exact hinv j (by omega)
  repeat(any_goals((first|refine .inl ⟨wrap64 (by omega),?_⟩)<;>conv=>whnf))
  refine⟨k+1,[],⟨by omega,?_⟩,by first|omega|(dsimp only;omega),?_⟩;rotate_left
  ·exact QD
  intro j hj
  by_cases e:j=k
  ·subst e;rw[hrg];exact Z0d fun i hi=>hinv i (by omega)
  exact hinv0 j (by omega)
 exact PSub.lit_sb (Z0d fun j hj=>hinv j (by omega)).symm
theorem Zxj(c:RuC)(hc:smallRuC c):AC Tryz.prog 7 [.pv (.agg (cRuC c))] [] (.pv (vbool true)) []:=by
 have r1:=Z2a c.s c.sc c.v c.h c.l hc.s hc.sc.1 hc.sc.2 hc.v hc.h;have hsh:=Z5y (s:=c.s) (sc:=c.sc) (v:=c.v) (h:=c.h) (l:=c.l);have ho:runE c.s c.l=0->runR c.s c.sc c.v c.h c.l=runO c.s c.sc c.v c.h c.l:=fun h=>qK h
 have hW:runE c.s c.l=0->∀k,k<(runR c.s c.sc c.v c.h c.l).writes.length->GoodW c.s ((runR c.s c.sc c.v c.h c.l).writes.getD k default)∧((runR c.s c.sc c.v c.h c.l).writes.getD k default).cause.kind=2∧0<=idxOf (runR c.s c.sc c.v c.h c.l).ran ((runR c.s c.sc c.v c.h c.l).writes.getD k default).cause.name:=fun h k hk=>by
  rw[ho h]at hk ⊢;have:=Zu4 h (w:=(runO c.s c.sc c.v c.h c.l).writes.getD k default) (by rw[Z03 _ _ hk];exact qE _);exact⟨this.1,this.2.1,idxOf_in.2 this.2.2⟩
 have hM:runE c.s c.l=0->∀k,k<(runR c.s c.sc c.v c.h c.l).modes.length->0<=idxOf c.s.modes ((runR c.s c.sc c.v c.h c.l).modes.getD k default).value.s∧0<=idxOf (runR c.s c.sc c.v c.h c.l).ran ((runR c.s c.sc c.v c.h c.l).modes.getD k default).cause.name:=fun h k hk=>by
  rw[ho h]at hk ⊢;have:=Ztz h (w:=(runO c.s c.sc c.v c.h c.l).modes.getD k default) (by rw[Z03 _ _ hk];exact qE _);exact⟨idxOf_in.2 this.1,idxOf_in.2 this.2⟩
 have hS:runE c.s c.l=0->∀k,0<k->k<(runR c.s c.sc c.v c.h c.l).writes.length->keyLess ((runR c.s c.sc c.v c.h c.l).writes.getD k default).key ((runR c.s c.sc c.v c.h c.l).writes.getD (k-1) default).key=false:=fun h k h0 hk=>by
  rw[ho h]at hk ⊢;have:=Zu3 (s:=c.s) (sc:=c.sc) (v:=c.v) (h:=c.h) (l:=c.l) (i:=k-1) (by omega);rwa[show k-1+1=k from by omega]at this
 clear ho;generalize runR c.s c.sc c.v c.h c.l=o at *;generalize runE c.s c.l=e at *;have hlw:=hsh.w;have hlm:=hsh.m;have hlr:=hsh.r;have hmo:c.s.modes.length<=1048576:=hc.s.2.1;refine AC.of_awp (T:=T) T_ok hm Tryz.call7 Tryz.func7 rfl rfl rfl ?_
 conv=>whnf
 repeat(any_goals((first|refine⟨QT ?_,QF ?_⟩<;>intro h<;>(try simp only[Q0,Q1,Q2,Q3,Q4,Q5,Q6,Q7,Q8,reduceCtorEq]at h)|refine .inl ⟨_,Z50 c hc,?_⟩|refine .inl ⟨_,Z2w,?_⟩|refine .inl ⟨_,r1,?_⟩)<;>conv=>whnf))
 ·exact PSub.rfl
 ·exact PSub.rfl
 replace hW:=hW h;replace hM:=hM h;replace hS:=hS h;refine loop_k (ι:=Nat) [1,3] [1,3] (fun k=>k<=o.writes.length∧True) (fun k=>o.writes.length-k) 0 (fun k=>[(5,.pv (vint k))]) (fun _=>[]) [] ⟨qe _,trivial⟩ ?_ (fun k hk=>?_)
 ·exact QD
 obtain⟨hkn,hinv⟩:=hk
 conv=>whnf
 refine⟨fun h=>?_,fun h=>?_⟩<;>(try simp only[Q0,Q1,Q2,Q3,Q4,Q5,Q6,Q7,Q8,reduceCtorEq]at h)<;>(conv=>whnf)
 ·have hk2:k<o.writes.length:=by omega
  obtain⟨⟨w1,w2,w3⟩,w4,w5⟩:=hW k hk2;have hs0:0<k->keyLess (o.writes.getD k default).key (o.writes.getD (k-1) default).key=false:=fun h0=>hS k h0 hk2
  have hen:((findA c.s.home (o.writes.getD k default).key).getD noAttr).enum.length<=1048576:=Z60 hc.s.1
  repeat(any_goals((first|refine⟨QT ?_,QF ?_⟩<;>intro h<;>(try simp only[Q0,Q1,Q2,Q3,Q4,Q5,Q6,Q7,Q8,reduceCtorEq]at h)|refine .inl ⟨_,Z40 c.s.home (o.writes.getD k default).key hc.s.1,?_⟩|refine .inl ⟨_,Z34 ((findA c.s.home (o.writes.getD k default).key).getD noAttr) (o.writes.getD k default).value hen,?_⟩|refine .inl ⟨_,Z1a o.ran (o.writes.getD k default).cause.name hlr,?_⟩|refine .inl ⟨_,Z53 (o.writes.getD k default).key (o.writes.getD ((k:Int)-1).toNat default).key,?_⟩|refine QI ?_|refine QK ?_|refine .inl ⟨wrap64 (by omega),?_⟩)<;>conv=>whnf))
  all_goals first
   |(exfalso;rw[w1]at h;cases h;done)
   |(exfalso;rw[w2]at h;cases h;done)
   |(exfalso;exact h w3)
   |(exfalso;exact h w4)
   |(exfalso;omega)
   |(exfalso;rw[show((k:Int)-1).toNat=k-1 from by omega,hs0 (by omega)]at h;cases h;done)
   |skip
  all_goals
   refine⟨k+1,[],⟨by omega,?_⟩,by first|omega|(dsimp only;omega),?_⟩;rotate_left
   ·exact QD
   trivial
 skip
 refine loop_k (ι:=Nat) [1,3] [1,3] (fun k=>k<=o.modes.length∧True) (fun k=>o.modes.length-k) 0 (fun k=>[(9,.pv (vint k))]) (fun _=>[]) [] ⟨qe _,trivial⟩ ?_ (fun k hk=>?_)
 ·exact QD
 obtain⟨hkn,hinv⟩:=hk
 conv=>whnf
 refine⟨fun h=>?_,fun h=>?_⟩<;>(try simp only[Q0,Q1,Q2,Q3,Q4,Q5,Q6,Q7,Q8,reduceCtorEq]at h)<;>(conv=>whnf)
 ·have hk2:k<o.modes.length:=by omega
  obtain⟨w1,w2⟩:=hM k hk2
  repeat(any_goals((first|refine⟨QT ?_,QF ?_⟩<;>intro h<;>(try simp only[Q0,Q1,Q2,Q3,Q4,Q5,Q6,Q7,Q8,reduceCtorEq]at h)|refine .inl ⟨_,Z1a c.s.modes (o.modes.getD k default).value.s hmo,?_⟩|refine .inl ⟨_,Z1a o.ran (o.modes.getD k default).cause.name hlr,?_⟩|refine QI ?_|refine QK ?_|refine .inl ⟨wrap64 (by omega),?_⟩)<;>conv=>whnf))
  all_goals first
   |(exfalso;omega)
   |skip
  all_goals
   refine⟨k+1,[],⟨by omega,?_⟩,by first|omega|(dsimp only;omega),?_⟩;rotate_left
   ·exact QD
   trivial
 repeat(any_goals((first|refine .inl ⟨_,Z2w,?_⟩)<;>conv=>whnf))
 exact PSub.rfl
end Go.Abs
