/- YtipbekclhmbclaaGreatDoorY00: walks and contracts. -/
import Derived.Test.YtipbekclhmbclaaGreatDoorX09
import Derived.Laws.RangeString
import Derived.Shelf.SlSortCmp.Insertion

set_option linter.unusedVariables false
set_option linter.unusedSimpArgs false
set_option linter.unusedSectionVars false

namespace Go.Abs
open Go.Proofs
theorem Z1a(l:List ByteArray)(x:ByteArray)(hl:l.length<=1048576):AC Tryz.prog 18 [.pv (roL 1 cstr l),.pv (vstr x)] [] (.pv (vint (idxOf l x))) []:=by
 refine AC.of_awp (T:=T) T_ok hm Tryz.call18 Tryz.func18 rfl rfl rfl ?_
 conv=>whnf
 refine⟨Nat,fun k=>k<=l.length∧∀j,j<k->l.getD j default≠x,fun k=>⟨[(0,.pv (roL 1 cstr l)),(1,.pv (vstr x)),(5,.pv (vint k))],[]⟩,fun k=>l.length-k,0,[],⟨qe _,fun j h=>absurd h (by omega)⟩,⟨.rfl,.rfl,.rfl⟩,fun k hk=>?_⟩
 conv=>whnf
 refine⟨fun h=>?_,fun h=>?_⟩
 ·simp only[Q0]at h;refine⟨by omega,?_⟩
  conv=>whnf
  refine⟨fun h2=>?_,fun h2=>?_⟩
  ·conv=>whnf
   simp only[Q0]at h2;exact PSub.int (by rw[Z4i (k:=k) (by omega) (by simpa using h2) hk.2])
  conv=>whnf
  refine .inl ⟨wrap64 (by omega),?_⟩
  conv=>whnf
  simp only[decide_eq_false_iff_not]at h2;refine⟨k+1,[],⟨by omega,fun j hj=>?_⟩,by dsimp only;omega,.rfl,.rfl,.rfl⟩
  by_cases e:j=k
  ·subst e;simpa using h2
  exact hk.2 j (by omega)
 conv=>whnf
 simp only[Q1]at h;exact PSub.int (by rw[Zew fun j hj=>hk.2 j (by omega)])
theorem Z0p(s:ByteArray):AC Tryz.prog 75 [.pv (vstr s)] [] (.pv (vbool (validName s))) []:=by
 refine AC.of_awp (T:=T) T_ok hm Tryz.call75 Tryz.func75 rfl rfl rfl ?_
 conv=>whnf
 refine⟨fun h=>?_,fun h=>?_⟩
 ·conv=>whnf
  simp only[Q0]at h;exact PSub.lit_sb (by symm;simp[validName];omega)
 conv=>whnf
 refine⟨fun h2=>?_,fun h2=>?_⟩
 ·conv=>whnf
  simp only[Q0]at h2;exact PSub.lit_sb (by symm;simp[validName];omega)
 conv=>whnf
 simp only[Q1]at h h2;refine⟨Nat,fun k=>k<=s.size∧∀j,j<k->letterOk j (byteAt s j)=true,fun k=>⟨[(0,.pv (vstr s)),(3,.pv (vint k))],[]⟩,fun k=>s.size-k,0,[],⟨qe _,fun j h=>absurd h (by omega)⟩,⟨.rfl,.rfl⟩,fun k hk=>?_⟩
 conv=>whnf
 refine⟨fun h3=>?_,fun h3=>?_⟩
 ·conv=>whnf
  simp only[Q0]at h3;refine⟨by omega,?_⟩
  conv=>whnf
  have hb:∀j,j<k->letterOk j (byteAt s j)=true:=hk.2;have hkl:=hk.1;clear hk;have hkn:(k:Int).toNat=k:=rfl;simp only[hkn]
  iterate 9 (all_goals first|(refine⟨fun h=>?_,fun h=>?_⟩<;>(conv=>whnf))|skip)
  all_goals simp only[Q0,Q1,Q2,Q3,Q4]at *
  all_goals first
   |contradiction
   |exact PSub.lit_sb (Zir (k:=k) (by omega) (by omega))
   |(refine .inl ⟨wrap64 (by omega),?_⟩
     conv=>whnf
     refine⟨k+1,[],⟨by omega,fun j hj=>?_⟩,by omega,.rfl,.rfl⟩
     by_cases e:j=k
     ·subst e;exact letterOk_iff.2 (by omega)
     ·exact hb j (by omega))
 ·conv=>whnf
  simp only[Q1]at h3;exact PSub.lit_sb (by symm;rw[validName_iff];exact⟨by omega,by omega,fun i hi=>hk.2 i (by omega)⟩)
set_option maxRecDepth 10000
theorem Z89(v:Val):AC Tryz.prog 45 [.pv (.agg (cVal v))] [] (.pv (vint (valE v))) []:=by
 refine AC.of_awp (T:=T) T_ok hm Tryz.call45 Tryz.func45 rfl rfl rfl ?_
 conv=>whnf
 iterate 14 (all_goals first|(refine⟨fun h=>?_,fun h=>?_⟩<;>(conv=>whnf))|skip)
 all_goals simp only[Q0,Q1,Q2,Q3]at *
 all_goals first
  |contradiction
  |exact PSub.int (by simp only[valE,inRange,qd,Q1];(repeat' split)<;>first|rfl|omega|(simp_all;done)|(simp_all;omega))
  |trace_state
theorem Zkk(l:List ByteArray)(n:Nat)(x:ByteArray)(hl:n<=1048576):AC Tryz.prog 76 [.pv (.ro 1 n fun i=>cstr (l.getD i default)),.pv (vstr x)] [] (.pv (vbool (memN l n x))) []:=by
 refine AC.of_awp (T:=T) T_ok hm Tryz.call76 Tryz.func76 rfl rfl rfl ?_
 conv=>whnf
 refine⟨Nat,fun k=>k<=n∧∀j,j<k->l.getD j default≠x,fun k=>⟨[(0,.pv (.ro 1 n fun i=>cstr (l.getD i default))),(1,.pv (vstr x)),(5,.pv (vint k))],[]⟩,fun k=>n-k,0,[],⟨qe _,fun j h=>absurd h (by omega)⟩,⟨.rfl,.rfl,.rfl⟩,fun k hk=>?_⟩
 conv=>whnf
 refine⟨fun h=>?_,fun h=>?_⟩
 ·simp only[Q0]at h;refine⟨by omega,?_⟩
  conv=>whnf
  refine⟨fun h2=>?_,fun h2=>?_⟩
  ·conv=>whnf
   simp only[Q0]at h2;exact PSub.lit_sb (Z4m (k:=k) (by omega) (by simpa using h2)).symm
  conv=>whnf
  refine .inl ⟨wrap64 (by omega),?_⟩
  conv=>whnf
  simp only[decide_eq_false_iff_not]at h2;refine⟨k+1,[],⟨by omega,fun j hj=>?_⟩,by dsimp only;omega,.rfl,.rfl,.rfl⟩
  by_cases e:j=k
  ·subst e;simpa using h2
  exact hk.2 j (by omega)
 conv=>whnf
 simp only[Q1]at h;exact PSub.lit_sb (Z7d fun j hj=>hk.2 j (by omega)).symm
theorem Z52(a:Attr)(hl:a.enum.length<=1048576):AC Tryz.prog 44 [.pv (.agg (cAttr a))] [] (.pv (vint (defE a))) []:=by
 refine AC.of_awp (T:=T) T_ok hm Tryz.call44 Tryz.func44 rfl rfl rfl ?_
 conv=>whnf
 refine .inl ⟨_,Z0p _,?_⟩
 conv=>whnf
 refine⟨fun h=>?_,fun h=>?_⟩
 ·conv=>whnf
  simp only[Q2]at h;exact PSub.int (by rw[defE,qK h])
 conv=>whnf
 simp only[Q3]at h;have h:¬validName a.name=false:=by rw[h];decide
 have hk:a.kind<1∨4<a.kind->PSub (ofConst (.int .i64 7)) (vint (defE a)):=fun hh=>PSub.int (by rw[defE,qJ h,qK hh])
 refine⟨fun h2=>?_,fun h2=>?_⟩
 ·conv=>whnf
  simp only[Q0]at h2;exact hk (.inl h2)
 conv=>whnf
 refine⟨fun h3=>?_,fun h3=>?_⟩
 ·conv=>whnf
  simp only[Q0]at h3;exact hk (.inr h3)
 conv=>whnf
 simp only[Q1]at h2 h3;have hk2:¬(a.kind<1∨4<a.kind):=by omega
 have tail:∀(hq:¬(a.kind=2∧(inRange a.min=false∨inRange a.max=false∨a.max<a.min))) (hq2:¬(a.kind≠2∧(a.min≠0∨a.max≠0))),defE a=if a.kind=3 then membersE a.enum else if 0<a.enum.length then 4 else 0:=fun hq hq2=>by
  rw[defE,qJ h,qJ hk2,qJ hq,qJ hq2]
 have hin:∀n,inRange n=false↔¬(-1099511627776<=n∧n<=1099511627776):=fun n=>by
  rw[<-Bool.not_eq_true,inRange,qc,Q0,Q0]
 refine⟨fun h4=>?_,fun h4=>?_⟩
 ·conv=>whnf
  simp only[Q0]at h4;have bad:(a.min < -1099511627776∨1099511627776<a.max∨a.max<a.min)->PSub (ofConst (.int .i64 2)) (vint (defE a)):=fun hh=>PSub.int (by rw[defE,qJ h,qJ hk2,qK ⟨h4,by rw[hin,hin];omega⟩])
  refine⟨fun h5=>?_,fun h5=>?_⟩
  ·conv=>whnf
   simp only[Q0]at h5;exact bad (.inl h5)
  conv=>whnf
  refine⟨fun h6=>?_,fun h6=>?_⟩
  ·conv=>whnf
   simp only[Q0]at h6;exact bad (.inr (.inl h6))
  conv=>whnf
  refine⟨fun h7=>?_,fun h7=>?_⟩
  ·conv=>whnf
   simp only[Q0]at h7;exact bad (.inr (.inr h7))
  conv=>whnf
  simp only[Q1]at h5 h6 h7;have hd:=tail (by rw[hin,hin];omega) (by omega);rw[qJ (by omega)]at hd;rw[hd];refine⟨fun h8=>?_,fun h8=>?_⟩
  ·conv=>whnf
   refine⟨fun h9=>?_,fun h9=>?_⟩
   ·conv=>whnf
    simp only[Q0]at h9;exact PSub.int (by rw[qK (by omega)])
   conv=>whnf
   simp only[Q1]at h9;exact PSub.int (by rw[qJ (by omega)])
  simp only[Q3,Q0]at h8;omega
 conv=>whnf
 simp only[Q1]at h4;have bad:(a.min≠0∨a.max≠0)->PSub (ofConst (.int .i64 2)) (vint (defE a)):=fun hh=>PSub.int (by rw[defE,qJ h,qJ hk2,qJ (fun x=>h4 x.1),qK ⟨h4,hh⟩])
 refine⟨fun h5=>?_,fun h5=>?_⟩
 ·conv=>whnf
  simp only[Q2,Q1]at h5;exact bad (.inl h5)
 conv=>whnf
 refine⟨fun h6=>?_,fun h6=>?_⟩
 ·conv=>whnf
  simp only[Q2,Q1]at h6;exact bad (.inr h6)
 conv=>whnf
 simp only[Q3,Q0]at h5 h6;have hd:=tail (fun x=>h4 x.1) (by omega);rw[hd];refine⟨fun h8=>?_,fun h8=>?_⟩
 ·conv=>whnf
  simp only[Q2,Q1]at h8;rw[qJ h8];refine⟨fun h9=>?_,fun h9=>?_⟩
  ·conv=>whnf
   simp only[Q0]at h9;exact PSub.int (by rw[qK (by omega)])
  conv=>whnf
  simp only[Q1]at h9;exact PSub.int (by rw[qJ (by omega)])
 conv=>whnf
 simp only[Q3,Q0]at h8;rw[qK h8];refine⟨fun h=>?_,fun h=>?_⟩
 ·conv=>whnf
  simp only[Q0]at h;exact PSub.int (by rw[membersE,qK (by omega)])
 conv=>whnf
 refine⟨fun h9=>?_,fun h9=>?_⟩
 ·conv=>whnf
  simp only[Q0]at h9;exact PSub.int (by rw[membersE,qK (by omega)])
 conv=>whnf
 simp only[Q1]at h h9;have e0:membersE a.enum=firstE a.enum.length fun i=>if validName (a.enum.getD i default)=false then 10 else if idxOf a.enum (a.enum.getD i default)<i then 9 else 0:=by rw[membersE,qJ (by omega)]
 rw[e0];generalize hf:(fun i=>if validName (a.enum.getD i default)=false then(10:Int)else if idxOf a.enum (a.enum.getD i default)<(i:Int)then 9 else 0)=f;have hfi:∀i,f i=if validName (a.enum.getD i default)=false then(10:Int)else if idxOf a.enum (a.enum.getD i default)<(i:Int)then 9 else 0:=fun i=>by rw[<-hf]
 refine⟨Nat,fun k=>k<=a.enum.length∧∀j,j<k->f j=0,fun k=>⟨[(1,.ptr 1 0),(3,.pv (vint k))],[(1,.pbox (cAttr a))]⟩,fun k=>a.enum.length-k,0,[],⟨qe _,fun j h=>absurd h (by omega)⟩,⟨⟨PSubs.rfl,trivial⟩,rfl,.rfl⟩,fun k hk=>?_⟩
 conv=>whnf
 refine⟨fun h3=>?_,fun h3=>?_⟩
 ·conv=>whnf
  simp only[Q0]at h3;refine⟨by omega,?_⟩
  conv=>whnf
  refine .inl ⟨_,Z0p _,?_⟩
  conv=>whnf
  have hfk:=hfi k;refine⟨fun h4=>?_,fun h4=>?_⟩
  ·conv=>whnf
   simp only[Q2,Q4]at h4;rw[qK h4]at hfk;exact PSub.int (by rw[Z06 (k:=k) (by omega) (by rw[hfk];decide) hk.2,hfk])
  conv=>whnf
  simp only[Q3,Q4]at h4;rw[qJ (by rw[h4];decide)]at hfk;refine⟨by kernel_rfl,?_⟩
  conv=>whnf
  refine⟨by omega,?_⟩
  conv=>whnf
  refine⟨by omega,?_⟩
  conv=>whnf
  refine .inl ⟨_,Zkk a.enum k _ (by omega),?_⟩
  conv=>whnf
  refine⟨by kernel_rfl,?_⟩
  conv=>whnf
  refine⟨fun h5=>?_,fun h5=>?_⟩
  ·conv=>whnf
   rw[qK ((Z5h (by omega)).2 h5)]at hfk;exact PSub.int (by rw[Z06 (k:=k) (by omega) (by rw[hfk];decide) hk.2,hfk])
  conv=>whnf
  simp only[Q4]at h5;rw[qJ (fun x=>by rw[(Z5h (by omega)).1 x]at h5;cases h5)]at hfk;refine .inl ⟨wrap64 (by omega),?_⟩
  conv=>whnf
  refine⟨k+1,[],⟨by omega,fun j hj=>?_⟩,by dsimp only;omega,⟨PSubs.rfl,trivial⟩,rfl,.rfl⟩
  by_cases e:j=k
  ·subst e;exact hfk
  exact hk.2 j (by omega)
 conv=>whnf
 simp only[Q1]at h3;exact PSub.int (by rw[Z0c fun j hj=>hk.2 j (by omega)])
theorem Z34(a:Attr)(v:Val)(hl:a.enum.length<=1048576):AC Tryz.prog 20 [.pv (.agg (cAttr a)),.pv (.agg (cVal v))] [] (.pv (vint (fitsE a v))) []:=by
 refine AC.of_awp (T:=T) T_ok hm Tryz.call20 Tryz.func20 rfl rfl rfl ?_
 conv=>whnf
 iterate 14 (all_goals first|(refine⟨fun h=>?_,fun h=>?_⟩<;>(conv=>whnf))|(refine .inl ⟨_,Z52 a hl,?_⟩;conv=>whnf)|(refine .inl ⟨_,Z89 v,?_⟩;conv=>whnf)|skip)
 all_goals simp only[Q0,Q1,Q2,Q3]at *
 all_goals first
  |contradiction
  |exact PSub.int (by simp only[fitsE];(repeat' split)<;>first|rfl|omega|(simp_all;done)|(simp_all;omega))
  |trace_state
theorem Z35(a:Attr)(v:Val)(hl:a.enum.length<=1048576):AC Tryz.prog 114 [.pv (.agg (cAttr a)),.pv (.agg (cVal v))] [] (.pv (.agg (cVal (limitV a v)))) []:=by
 refine AC.of_awp (T:=T) T_ok hm Tryz.call114 Tryz.func114 rfl rfl rfl ?_
 conv=>whnf
 iterate 8 (all_goals first|(refine⟨fun h=>?_,fun h=>?_⟩<;>(conv=>whnf))|(refine .inl ⟨_,Z52 a hl,?_⟩;conv=>whnf)|skip)
 all_goals simp only[Q0,Q1,Q2,Q3]at *
 all_goals first
  |contradiction
  |exact PSub.of_eq (by simp only[limitV,clampI];(repeat' split)<;>first|rfl|omega|contradiction|(simp_all;done))
  |trace_state
theorem Zc3(a:Attr)(hl:a.enum.length<=1048576):AC Tryz.prog 117 [.pv (.agg (cAttr a))] [] (.pv (.agg (cVal (zeroV a)))) []:=by
 refine AC.of_awp (T:=T) T_ok hm Tryz.call117 Tryz.func117 rfl rfl rfl ?_
 conv=>whnf
 iterate 6 (all_goals first|(refine⟨fun h=>?_,fun h=>?_⟩<;>(conv=>whnf))|(refine .inl ⟨_,Z52 a hl,?_⟩;conv=>whnf)|(refine .inl ⟨_,Z35 a ⟨a.kind,0,⟨#[]⟩⟩ hl,?_⟩;conv=>whnf)|skip)
 all_goals simp only[Q0,Q1,Q2,Q3]at *
 all_goals first
  |contradiction
  |exact PSub.of_eq (by simp only[zeroV,limitV];(repeat' split)<;>first|rfl|omega|contradiction|(simp_all;done))
  |trace_state
def placeI(l:List Attr)(s:ByteArray):Int:=if attrAt l s<l.length then(attrAt l s:Int)else -1
theorem Z6d(c:Clu)(s:ByteArray)(hc:smallK c):AC Tryz.prog 74 [.pv (.agg (cClu c)),.pv (vstr s)] [] (.pv (vint (placeI c.attrs s))) []:=by
 have hl:c.attrs.length<=1048576:=hc.1;refine AC.of_awp (T:=T) T_ok hm Tryz.call74 Tryz.func74 rfl rfl rfl ?_
 conv=>whnf
 refine⟨Nat,fun k=>k<=c.attrs.length∧∀j,j<k->decide ((c.attrs.getD j default).name=s)=false,fun k=>⟨[(1,.pv (vstr s)),(2,.ptr 2 0),(8,.pv (vint c.attrs.length)),(9,.pv (vint k))],[(2,.pbox (cClu c))]⟩,fun k=>c.attrs.length-k,0,[],⟨qe _,fun j h=>absurd h (by omega)⟩,⟨⟨PSubs.rfl,trivial⟩,.rfl,rfl,.rfl,.rfl⟩,fun k hk=>?_⟩
 conv=>whnf
 refine⟨fun h=>?_,fun h=>?_⟩
 ·simp only[Q0]at h
  conv=>whnf
  refine⟨by omega,?_⟩
  conv=>whnf
  refine⟨fun h2=>?_,fun h2=>?_⟩
  ·conv=>whnf
   have ea:attrAt c.attrs s=k:=Z0u (by omega) h2 hk.2;exact PSub.int (by rw[placeI,ea,qK (by omega)])
  conv=>whnf
  refine .inl ⟨wrap64 (by omega),?_⟩
  conv=>whnf
  refine⟨k+1,[],⟨by omega,fun j hj=>?_⟩,by dsimp only;omega,⟨PSubs.rfl,trivial⟩,.rfl,rfl,.rfl,.rfl⟩
  by_cases e:j=k
  ·subst e;exact h2
  exact hk.2 j (by omega)
 conv=>whnf
 simp only[Q1]at h;have ea:attrAt c.attrs s=c.attrs.length:=Z0z fun j hj=>hk.2 j (by omega)
 exact PSub.int (by rw[placeI,ea,qJ (by omega)])
theorem Zc5(c:Clu)(s:ByteArray)(hc:smallK c):AC Tryz.prog 43 [.pv (.agg (cClu c)),.pv (vstr s)] [] (.pv (.tup [.agg (cAttr (attrOf c.attrs s)),vbool (decide (attrAt c.attrs s<c.attrs.length))])) []:=by
 refine AC.of_awp (T:=T) T_ok hm Tryz.call43 Tryz.func43 rfl rfl rfl ?_
 conv=>whnf
 refine .inl ⟨_,Z6d c s hc,?_⟩
 conv=>whnf
 have hp:placeI c.attrs s<0↔¬attrAt c.attrs s<c.attrs.length:=by unfold placeI;split<;>omega
 refine⟨fun h=>?_,fun h=>?_⟩
 ·conv=>whnf
  simp only[Q0]at h;have h:=hp.1 h;refine⟨?_,?_⟩
  ·conv=>whnf
   rw[attrOf,qJ h];exact PSub.agg ⟨.rfl,.rfl,.rfl,.rfl,PSub.nil_ro _ _,PSub.lit_sb rfl,PSub.lit_sb rfl,trivial⟩
  conv=>whnf
  exact PSub.lit_sb (by simp[h])
 simp only[Q1]at h;have h:attrAt c.attrs s<c.attrs.length:=Classical.not_not.1 fun x=>h (hp.2 x)
 have e:placeI c.attrs s=(attrAt c.attrs s:Int):=by rw[placeI,qK h]
 rw[e]
 conv=>whnf
 refine⟨by omega,?_⟩
 conv=>whnf
 refine⟨?_,?_⟩
 ·conv=>whnf
  exact PSub.of_eq (by rw[attrOf,qK h];rfl)
 conv=>whnf
 exact PSub.lit_sb (by simp[h])
theorem Zkq(c:Clu)(hc:smallK c):AC Tryz.prog 223 [.pv (.agg (cClu c))] [] (.pv (vbool (wideB c))) []:=by
 have hl:c.commands.length<=1048576:=hc.2.2.1;refine AC.of_awp (T:=T) T_ok hm Tryz.call223 Tryz.func223 rfl rfl rfl ?_
 conv=>whnf
 refine⟨fun h=>?_,fun h=>?_⟩
 ·conv=>whnf
  simp only[Q0]at h;exact PSub.lit_sb (by simp[wideB,show 12<c.attrs.length from by omega])
 conv=>whnf
 refine⟨fun h1=>?_,fun h1=>?_⟩
 ·conv=>whnf
  simp only[Q0]at h1;exact PSub.lit_sb (by simp[wideB,show 12<c.commands.length from by omega])
 conv=>whnf
 refine⟨fun h2=>?_,fun h2=>?_⟩
 ·conv=>whnf
  simp only[Q0]at h2;exact PSub.lit_sb (by simp[wideB,show 12<c.events.length from by omega])
 conv=>whnf
 simp only[Q1]at h h1 h2;have e0:wideB c=manyE c.commands:=by simp[wideB,show ¬12<c.attrs.length from by omega,show ¬12<c.commands.length from by omega,show ¬12<c.events.length from by omega]
 rw[e0];refine⟨Nat,fun k=>k<=c.commands.length∧∀j,j<k->¬12<(c.commands.getD j default).effects.length,fun k=>⟨[(1,.ptr 1 0),(22,.pv (vint c.commands.length)),(23,.pv (vint k))],[(1,.pbox (cClu c))]⟩,fun k=>c.commands.length-k,0,[],⟨qe _,fun j h=>absurd h (by omega)⟩,⟨⟨PSubs.rfl,trivial⟩,rfl,.rfl,.rfl⟩,fun k hk=>?_⟩
 conv=>whnf
 refine⟨fun h=>?_,fun h=>?_⟩
 ·simp only[Q0]at h
  conv=>whnf
  refine⟨by omega,?_⟩
  conv=>whnf
  refine⟨fun h2=>?_,fun h2=>?_⟩
  ·conv=>whnf
   simp only[Q0,Q4]at h2;exact PSub.lit_sb (Za7 (k:=k) (by omega) (by omega)).symm
  conv=>whnf
  simp only[Q1,Q4]at h2;refine .inl ⟨wrap64 (by omega),?_⟩
  conv=>whnf
  refine⟨k+1,[],⟨by omega,fun j hj=>?_⟩,by dsimp only;omega,⟨PSubs.rfl,trivial⟩,rfl,.rfl,.rfl⟩
  by_cases e:j=k
  ·subst e;omega
  exact hk.2 j (by omega)
 conv=>whnf
 simp only[Q1]at h;exact PSub.lit_sb (Zfv fun j hj=>hk.2 j (by omega)).symm
theorem Zc8(a b:List ByteArray)(ha:a.length<=1048576):AC Tryz.prog 266 [.pv (roL 1 cstr a),.pv (roL 1 cstr b)] [] (.pv (vbool (decide (a=b)))) []:=by
 refine AC.of_awp (T:=T) T_ok hm Tryz.call266 Tryz.func266 rfl rfl rfl ?_
 conv=>whnf
 refine⟨fun h=>?_,fun h=>?_⟩
 ·conv=>whnf
  simp only[Q2,Q1]at h;exact PSub.lit_sb (by symm;simp only[Q1];intro e;exact h (by rw[e]))
 conv=>whnf
 simp only[Q3,Q0]at h;refine⟨Nat,fun k=>k<=a.length∧∀j,j<k->a.getD j default=b.getD j default,fun k=>⟨[(0,.pv (roL 1 cstr a)),(1,.pv (roL 1 cstr b)),(12,.pv (vint a.length)),(13,.pv (vint k))],[]⟩,fun k=>a.length-k,0,[],⟨qe _,fun j h=>absurd h (by omega)⟩,⟨.rfl,.rfl,.rfl,.rfl⟩,fun k hk=>?_⟩
 conv=>whnf
 refine⟨fun h2=>?_,fun h2=>?_⟩
 ·simp only[Q0]at h2
  conv=>whnf
  refine⟨by kernel_rfl,?_⟩
  conv=>whnf
  refine⟨by omega,?_⟩
  conv=>whnf
  refine⟨by omega,?_⟩
  conv=>whnf
  refine⟨by kernel_rfl,?_⟩
  conv=>whnf
  refine⟨fun h3=>?_,fun h3=>?_⟩
  ·conv=>whnf
   simp only[Q2,Q1]at h3;exact PSub.lit_sb (by symm;simp only[Q1];intro e;exact h3 (by rw[e]))
  conv=>whnf
  simp only[Q3,Q0,Q4]at h3;refine .inl ⟨wrap64 (by omega),?_⟩
  conv=>whnf
  refine⟨k+1,[],⟨by omega,fun j hj=>?_⟩,by dsimp only;omega,.rfl,.rfl,.rfl,.rfl⟩
  by_cases e:j=k
  ·subst e;exact h3
  exact hk.2 j (by omega)
 conv=>whnf
 simp only[Q1]at h2;exact PSub.lit_sb (by symm;simp only[Q0];exact Z7b (by omega) fun i hi=>hk.2 i (by omega))
theorem Zkp(x:Eff)(a p:Attr)(ha:smallA a)(hp:smallA p):AC Tryz.prog 267 [.pv (.agg (cEff x)),.pv (.agg (cAttr a)),.pv (.agg (cAttr p))] [] (.pv (vbool (suitsB x a p))) []:=by
 have e0:alikeB a p=(decide (p.kind=a.kind)&&decide (p.enum=a.enum)):=by simp only[alikeB];congr 1<;>(rw[qt];simp only[Q0];exact⟨fun h=>h.symm,fun h=>h.symm⟩)
 refine AC.of_awp (T:=T) T_ok hm Tryz.call267 Tryz.func267 rfl rfl rfl ?_
 conv=>whnf
 repeat(any_goals((first|refine⟨QT ?_,QF ?_⟩<;>intro h<;>(try simp only[Q0,Q1,Q2,Q3,Q4,Q5,Q6,Q7,Q8,reduceCtorEq]at h)|refine .inl ⟨_,Z34 a ⟨a.kind,x.n,⟨#[]⟩⟩ ha,?_⟩|refine .inl ⟨_,Zc8 p.enum a.enum hp,?_⟩)<;>conv=>whnf))
 all_goals(try simp only[Q0,Q1,Q2,Q3,Q4,Q5,Q6,Q7,Q8,reduceCtorEq]at *)
 all_goals first
  |contradiction
  |(exfalso;omega)
  |exact PSub.rfl
  |(refine PSub.int ?_;simp only[suitsB,e0];(repeat' split)<;>first|rfl|omega|(simp_all[-List.getD_eq_getElem?_getD];done)|(simp_all[-List.getD_eq_getElem?_getD];omega))
  |(refine PSub.sb ?_;simp_all[suitsB,e0,-List.getD_eq_getElem?_getD];done)
  |(refine PSub.lit_sb ?_;simp_all[suitsB,e0,-List.getD_eq_getElem?_getD];done)
  |(refine PSub.sb_lit ?_;simp_all[suitsB,e0,-List.getD_eq_getElem?_getD];done)
  |(refine PSub.sb ?_;rw[qt];simp_all[suitsB,e0,-List.getD_eq_getElem?_getD];done)
  |(refine PSub.lit_sb ?_;rw[qt];simp_all[suitsB,e0,-List.getD_eq_getElem?_getD];done)
  |(refine PSub.sb_lit ?_;rw[qt];simp_all[suitsB,e0,-List.getD_eq_getElem?_getD];done)
  |skip
theorem Zu7{n:Int}:satI n≠n↔(n < -1099511627776∨1099511627776<n):=by unfold satI;omega
theorem Zkm(c:Clu)(p:Attr)(x:Eff)(hc:smallK c)(hp:smallA p):AC Tryz.prog 256 [.pv (.agg (cClu c)),.pv (.agg (cAttr p)),.pv (.agg (cEff x))] [] (.pv (vint (effE c p x))) []:=by
 have e:=@Zu7 x.n;refine AC.of_awp (T:=T) T_ok hm Tryz.call256 Tryz.func256 rfl rfl rfl ?_
 conv=>whnf
 repeat(any_goals((first|refine⟨QT ?_,QF ?_⟩<;>intro h<;>(try simp only[Q0,Q1,Q2,Q3,Q4,Q5,Q6,Q7,Q8,reduceCtorEq]at h)|refine .inl ⟨_,Zc5 c x.attr hc,?_⟩|refine .inl ⟨_,Zkp x (attrOf c.attrs x.attr) p (Zhz hc) hp,?_⟩)<;>conv=>whnf))
 all_goals rw[effE]
 all_goals(try simp only[Q0,Q1,Q2,Q3,Q4,Q5,Q6,Q7,Q8,reduceCtorEq]at *)
 all_goals first
  |contradiction
  |(exfalso;omega)
  |exact PSub.rfl
  |(refine PSub.int ?_;simp only[e];(repeat' split)<;>first|rfl|omega|(simp_all[-List.getD_eq_getElem?_getD];done)|(simp_all[-List.getD_eq_getElem?_getD];omega))
  |(refine PSub.sb ?_;simp_all[e,-List.getD_eq_getElem?_getD];done)
  |(refine PSub.lit_sb ?_;simp_all[e,-List.getD_eq_getElem?_getD];done)
  |(refine PSub.sb_lit ?_;simp_all[e,-List.getD_eq_getElem?_getD];done)
  |(refine PSub.sb ?_;rw[qt];simp_all[e,-List.getD_eq_getElem?_getD];done)
  |(refine PSub.lit_sb ?_;rw[qt];simp_all[e,-List.getD_eq_getElem?_getD];done)
  |(refine PSub.sb_lit ?_;rw[qt];simp_all[e,-List.getD_eq_getElem?_getD];done)
  |skip
theorem Zko(a:Attr)(ha:smallA a):AC Tryz.prog 255 [.pv (.agg (cAttr a)),.pv (.agg (cAttr noAttr))] [] (.pv (vbool (zeroA a))) []:=by
 refine AC.of_awp (T:=T) T_ok hm Tryz.call255 Tryz.func255 rfl rfl rfl ?_
 conv=>whnf
 repeat(any_goals((first|refine⟨QT ?_,QF ?_⟩<;>intro h<;>(try simp only[Q0,Q1,Q2,Q3,Q4,Q5,Q6,Q7,Q8,reduceCtorEq]at h)|refine .inl ⟨_,Zc8 a.enum [] ha,?_⟩)<;>conv=>whnf))
 all_goals first|(refine PSub.sb ?_;rw[qt,Z7y];simp_all[noAttr];done)|(refine PSub.lit_sb ?_;rw[qt,Z7y];simp_all[noAttr];done)|skip
theorem Z6g{n:Nat}{p:Nat->Bool}:anyN n p=true↔∃k,k<n∧p k=true:=by simp[anyN]
theorem Z8a(c:Clu)(s:ByteArray)(hc:smallK c):AC Tryz.prog 115 [.pv (.agg (cClu c)),.pv (vstr s)] [] (.pv (.tup [.agg (cCmd (cmdOf c.commands s)),vbool (decide (cmdAt c.commands s<c.commands.length))])) []:=by
 have hl:c.commands.length<=1048576:=hc.2.2.1;refine AC.of_awp (T:=T) T_ok hm Tryz.call115 Tryz.func115 rfl rfl rfl ?_
 conv=>whnf
 refine loop_k (ι:=Nat) [1,2,4,9] [2,4] (fun k=>k<=c.commands.length∧(∀j,j<k->decide ((c.commands.getD j default).name=s)=false)) (fun k=>c.commands.length-k) 0 (fun k=>[(10,.pv (vint k))]) (fun _=>[]) [] ⟨qe _,fun j h=>absurd h (by omega)⟩ ?_ (fun k hk=>?_)
 ·exact QD
 obtain⟨hkn,hinv⟩:=hk
 conv=>whnf
 repeat(any_goals((first|refine⟨QT ?_,QF ?_⟩<;>intro h<;>(try simp only[Q0,Q1,Q2,Q3,Q4,Q5,Q6,Q7,Q8,reduceCtorEq]at h)|refine QI ?_|refine .inl ⟨wrap64 (by omega),?_⟩)<;>conv=>whnf))
 ·have ea:cmdAt c.commands s=k:=Z0u (by omega) (by simpa using h) hinv;have hlt:k<c.commands.length:=by omega
  refine⟨?_,?_⟩<;>(conv=>whnf)
  ·exact PSub.of_eq (by rw[cmdOf,ea,qK hlt];rfl)
  exact PSub.lit_sb (by rw[ea];simp[hlt])
 ·refine⟨k+1,[],⟨by omega,?_⟩,by first|omega|(dsimp only;omega),?_⟩;rotate_left
  ·exact QD
  intro j hj
  by_cases e:j=k
  ·subst e;first|exact h|simpa[-List.getD_eq_getElem?_getD]using h|simp_all[-List.getD_eq_getElem?_getD]
  exact hinv j (by omega)
 have ea:cmdAt c.commands s=c.commands.length:=Z0z fun j hj=>hinv j (by omega)
 refine⟨?_,?_⟩<;>(conv=>whnf)
 ·rw[cmdOf,ea,qJ (by omega)];exact PSub.agg ⟨.rfl,.rfl,.rfl,.rfl,.rfl,PSub.nil_ro _ _,PSub.lit_sb rfl,PSub.lit_sb rfl,PSub.nil_ro _ _,trivial⟩
 exact PSub.lit_sb (by rw[ea];simp)
theorem Zkn(c:Clu)(i:Nat)(hc:smallK c)(hi:i<c.commands.length):AC Tryz.prog 224 [.pv (.agg (cClu c)),.pv (vint i)] [] (.pv (vint (cmdE c i))) []:=by
 have hl:c.commands.length<=1048576:=hc.2.2.1;have hd:=hc.2.2.2.1 i;have hd2:(c.commands.getD i default).effects.length<=1048576:=hd.2;refine AC.of_awp (T:=T) T_ok hm Tryz.call224 Tryz.func224 rfl rfl rfl ?_
 conv=>whnf
 refine qa (by omega) ?_
 conv=>whnf
 refine .inl ⟨_,Z0p (c.commands.getD i default).name,?_⟩
 conv=>whnf
 refine⟨fun h=>?_,fun h=>?_⟩<;>(try simp only[Q0,Q1,Q2,Q3,Q4,Q5,Q6,Q7,Q8,reduceCtorEq]at h)<;>(conv=>whnf)
 ·exact PSub.int (by simp[cmdE,h,-List.getD_eq_getElem?_getD])
 have hv:=h;refine loop_k (ι:=Nat) [1,2,5] [2,5] (fun k=>k<=i∧(∀j,j<k->decide ((c.commands.getD j default).name=(c.commands.getD i default).name)=false)) (fun k=>i-k) 0 (fun k=>[(6,.pv (vint k))]) (fun _=>[]) [] ⟨qe _,fun j h=>absurd h (by omega)⟩ ?_ (fun k hk=>?_)
 ·exact QD
 obtain⟨hkn,hinv⟩:=hk
 conv=>whnf
 repeat(any_goals((first|refine⟨QT ?_,QF ?_⟩<;>intro h<;>(try simp only[Q0,Q1,Q2,Q3,Q4,Q5,Q6,Q7,Q8,reduceCtorEq]at h)|refine .inl ⟨_,AC.sub2 (Zko (c.commands.getD i default).param hd.1) .rfl (PSub.agg Zg9 (l:=zAttr)),?_⟩|refine .inl ⟨_,Z52 (c.commands.getD i default).param hd.1,?_⟩|refine QI ?_|refine QK ?_|refine .inl ⟨wrap64 (by omega),?_⟩)<;>conv=>whnf))
 case' refine_2.refine_2.refine_1.refine_2=>
  refine⟨k+1,[],⟨by omega,?_⟩,by first|omega|(dsimp only;omega),?_⟩;rotate_left
  ·exact QD
  intro j hj
  by_cases e:j=k
  ·subst e;first|exact h|simpa[-List.getD_eq_getElem?_getD]using h|simp_all[-List.getD_eq_getElem?_getD]
  exact hinv j (by omega)
 ·have e:=Z0a (n:=i) (p:=fun j=>decide ((c.commands.getD j default).name=(c.commands.getD i default).name)) (k:=k) (by omega) (by simpa[-List.getD_eq_getElem?_getD]using h);exact PSub.int (by simp[cmdE,hv,e,-List.getD_eq_getElem?_getD])
 all_goals have ef:anyN i (fun j=>decide ((c.commands.getD j default).name=(c.commands.getD i default).name))=false:=Z0d fun j hj=>hinv j (by omega)
 all_goals try(exact PSub.int (by simp_all[cmdE,-List.getD_eq_getElem?_getD];done))
 all_goals
  have e0:cmdE c i=firstE (c.commands.getD i default).effects.length fun j=>effE c (c.commands.getD i default).param ((c.commands.getD i default).effects.getD j default):=by simp_all[cmdE,-List.getD_eq_getElem?_getD]
  rw[e0];clear hinv hkn;refine loop_k (ι:=Nat) [2,5,50] [2,5] (fun k2=>k2<=(c.commands.getD i default).effects.length∧(∀j,j<k2->effE c (c.commands.getD i default).param ((c.commands.getD i default).effects.getD j default)=0)) (fun k2=>(c.commands.getD i default).effects.length-k2) 0 (fun k2=>[(51,.pv (vint k2))]) (fun _=>[]) [] ⟨qe _,fun j h=>absurd h (by omega)⟩ ?_ (fun k2 hk=>?_)
  ·exact QD
  obtain⟨hkn,hinv⟩:=hk
  conv=>whnf
  repeat(any_goals((first|refine⟨QT ?_,QF ?_⟩<;>intro h<;>(try simp only[Q0,Q1,Q2,Q3,Q4,Q5,Q6,Q7,Q8,reduceCtorEq]at h)|refine .inl ⟨_,Zkm c (c.commands.getD i default).param ((c.commands.getD i default).effects.getD k2 default) hc hd.1,?_⟩|refine QI ?_|refine QK ?_|refine .inl ⟨wrap64 (by omega),?_⟩)<;>conv=>whnf))
  ·exact PSub.int (by rw[Z06 (k:=k2) (by omega) h hinv])
  ·refine⟨k2+1,[],⟨by omega,?_⟩,by first|omega|(dsimp only;omega),?_⟩;rotate_left
   ·exact QD
   intro j hj
   by_cases e:j=k2
   ·subst e;first|exact h|simpa[-List.getD_eq_getElem?_getD]using h|simp_all[-List.getD_eq_getElem?_getD]
   exact hinv j (by omega)
  exact PSub.int (by rw[Z0c fun j hj=>hinv j (by omega)])
theorem Zgq{l:List Attr}{s:ByteArray}{k:Nat}(hk:k<l.length)(h:(l.getD k default).name=s):(placeI l s<(k:Int))↔anyN k (fun j=>decide ((l.getD j default).name=s))=true:=by
 have hlt:attrAt l s<=k∧attrAt l s<l.length:=by
  unfold attrAt firstI;split
  ·rename_i i e;rw[List.find?_range_eq_some]at e;refine⟨?_,by simpa using e.2.1⟩;rcases Nat.lt_or_ge k i with hlt|hge
   ·have:=e.2.2 k hlt;simp[h,-List.getD_eq_getElem?_getD]at this
   exact hge
  rename_i e;rw[List.find?_eq_none]at e;have:=e k (by simpa using hk);simp[h,-List.getD_eq_getElem?_getD]at this
 unfold placeI;rw[qK hlt.2,Z6g];constructor
 ·intro hh;refine⟨attrAt l s,by omega,?_⟩;unfold attrAt firstI;split
  ·rename_i i e;rw[List.find?_range_eq_some]at e;exact e.1
  rename_i e;rw[List.find?_eq_none]at e;have:=e k (by simpa using hk);simp[h,-List.getD_eq_getElem?_getD]at this
 rintro ⟨j,hj,e⟩
 have:attrAt l s<=j:=by
  unfold attrAt firstI;split
  ·rename_i i e2;rw[List.find?_range_eq_some]at e2;rcases Nat.lt_or_ge j i with hlt2|hge
   ·have:=e2.2.2 j hlt2;rw[e]at this;cases this
   exact hge
  rename_i e2;rw[List.find?_eq_none]at e2;have:=e2 k (by simpa using hk);simp[h,-List.getD_eq_getElem?_getD]at this
 omega
theorem Zc6(c:Clu)(hc:smallK c):AC Tryz.prog 168 [.pv (.agg (cClu c))] [] (.pv (vint (checkE c))) []:=by
 have hl1:c.attrs.length<=1048576:=hc.1;have hl2:c.commands.length<=1048576:=hc.2.2.1;have hl3:c.events.length<=1048576:=hc.2.2.2.2;refine AC.of_awp (T:=T) T_ok hm Tryz.call168 Tryz.func168 rfl rfl rfl ?_
 conv=>whnf
 refine .inl ⟨_,Z0p c.name,?_⟩
 conv=>whnf
 refine⟨fun h=>?_,fun h=>?_⟩<;>(try simp only[Q0,Q1,Q2,Q3,Q4,Q5,Q6,Q7,Q8,reduceCtorEq]at h)<;>(conv=>whnf)
 ·exact PSub.int (by simp[checkE,h,-List.getD_eq_getElem?_getD])
 have hv:=h;refine .inl ⟨_,Zkq c hc,?_⟩
 conv=>whnf
 refine⟨fun h=>?_,fun h=>?_⟩<;>(try simp only[Q0,Q1,Q2,Q3,Q4,Q5,Q6,Q7,Q8,reduceCtorEq]at h)<;>(conv=>whnf)
 ·exact PSub.int (by simp[checkE,h,hv,-List.getD_eq_getElem?_getD])
 have hw:=h;refine loop_k (ι:=Nat) [1,17] [1] (fun k=>k<=c.attrs.length∧(∀j,j<k->attrE c.attrs j=0)) (fun k=>c.attrs.length-k) 0 (fun k=>[(18,.pv (vint k))]) (fun _=>[]) [] ⟨qe _,fun j h=>absurd h (by omega)⟩ ?_ (fun k hk=>?_)
 ·exact QD
 obtain⟨hkn,hinv⟩:=hk
 conv=>whnf
 repeat(any_goals((first|refine⟨QT ?_,QF ?_⟩<;>intro h<;>(try simp only[Q0,Q1,Q2,Q3,Q4,Q5,Q6,Q7,Q8,reduceCtorEq]at h)|refine .inl ⟨_,Z52 (c.attrs.getD k default) (hc.2.1 k),?_⟩|refine .inl ⟨_,Z6d c (c.attrs.getD k default).name hc,?_⟩|refine QI ?_|refine QK ?_|refine .inl ⟨wrap64 (by omega),?_⟩)<;>conv=>whnf))
 ·have e:attrE c.attrs k=defE (c.attrs.getD k default):=by simp[attrE,h,-List.getD_eq_getElem?_getD]
  have e2:=Z06 (n:=c.attrs.length) (k:=k) (f:=attrE c.attrs) (by omega) (by rw[e];exact h) hinv;rw[e]at e2;exact PSub.int (by simp[checkE,e2,h,hv,hw,-List.getD_eq_getElem?_getD])
 ·rename_i hd;rw[Zgq (by omega) rfl]at h;have e:attrE c.attrs k=9:=by simp[attrE,hd,h,-List.getD_eq_getElem?_getD]
  have e2:=Z06 (n:=c.attrs.length) (k:=k) (f:=attrE c.attrs) (by omega) (by rw[e];decide) hinv;rw[e]at e2;exact PSub.int (by simp[checkE,e2,hv,hw,-List.getD_eq_getElem?_getD])
 ·rename_i hd;rw[Zgq (by omega) rfl]at h;refine⟨k+1,[],⟨by omega,?_⟩,by first|omega|(dsimp only;omega),?_⟩;rotate_left
  ·exact QD
  intro j hj
  by_cases ee:j=k
  ·subst ee;simp[attrE,hd,h,-List.getD_eq_getElem?_getD]
  exact hinv j (by omega)
 have e1:firstE c.attrs.length (attrE c.attrs)=0:=Z0c fun j hj=>hinv j (by omega)
 clear hinv hkn h;refine loop_k (ι:=Nat) [1,43] [1] (fun k=>k<=c.commands.length∧(∀j,j<k->cmdE c j=0)) (fun k=>c.commands.length-k) 0 (fun k=>[(44,.pv (vint k))]) (fun _=>[]) [] ⟨qe _,fun j h=>absurd h (by omega)⟩ ?_ (fun k hk=>?_)
 ·exact QD
 obtain⟨hkn,hinv⟩:=hk
 conv=>whnf
 repeat(any_goals((first|refine⟨QT ?_,QF ?_⟩<;>intro h<;>(try simp only[Q0,Q1,Q2,Q3,Q4,Q5,Q6,Q7,Q8,reduceCtorEq]at h)|refine .inl ⟨_,Zkn c k hc (by omega),?_⟩|refine .inl ⟨wrap64 (by omega),?_⟩)<;>conv=>whnf))
 ·have e2:=Z06 (n:=c.commands.length) (k:=k) (f:=cmdE c) (by omega) h hinv;exact PSub.int (by simp[checkE,e1,e2,h,hv,hw,-List.getD_eq_getElem?_getD])
 ·refine⟨k+1,[],⟨by omega,?_⟩,by first|omega|(dsimp only;omega),?_⟩;rotate_left
  ·exact QD
  intro j hj
  by_cases e:j=k
  ·subst e;first|exact h|simpa[-List.getD_eq_getElem?_getD]using h|simp_all[-List.getD_eq_getElem?_getD]
  exact hinv j (by omega)
 have e2:firstE c.commands.length (cmdE c)=0:=Z0c fun j hj=>hinv j (by omega)
 have e0:checkE c=firstE c.events.length (evE c.events):=by simp[checkE,e1,e2,hv,hw,-List.getD_eq_getElem?_getD]
 rw[e0];clear hinv hkn h;refine loop_k (ι:=Nat) [1,56] [1] (fun k=>k<=c.events.length∧(∀j,j<k->evE c.events j=0)) (fun k=>c.events.length-k) 0 (fun k=>[(57,.pv (vint k))]) (fun _=>[]) [] ⟨qe _,fun j h=>absurd h (by omega)⟩ ?_ (fun k hk=>?_)
 ·exact QD
 obtain⟨hkn,hinv⟩:=hk
 conv=>whnf
 repeat(any_goals((first|refine⟨QT ?_,QF ?_⟩<;>intro h<;>(try simp only[Q0,Q1,Q2,Q3,Q4,Q5,Q6,Q7,Q8,reduceCtorEq]at h)|refine .inl ⟨_,Z0p (c.events.getD k default),?_⟩|refine QI ?_)<;>conv=>whnf))
 ·have e:evE c.events k=10:=by simp[evE,h,-List.getD_eq_getElem?_getD]
  exact PSub.int (by rw[Z06 (k:=k) (by omega) (by rw[e];decide) hinv,e])
 ·have hve:=h;have hinv1:=hinv;refine loop_k (ι:=Nat) [1,7,56,57] [1] (fun k2=>k2<=k∧(∀j,j<k2->c.events.getD j default≠c.events.getD k default)) (fun k2=>k-k2) 0 (fun k2=>[(8,.pv (vint k2))]) (fun _=>[]) [] ⟨qe _,fun j h=>absurd h (by omega)⟩ ?_ (fun k2 hk=>?_)
  ·exact QD
  obtain⟨hkn,hinv⟩:=hk
  conv=>whnf
  repeat(any_goals((first|refine⟨QT ?_,QF ?_⟩<;>intro h<;>(try simp only[Q0,Q1,Q2,Q3,Q4,Q5,Q6,Q7,Q8,reduceCtorEq]at h)|refine QI ?_|refine QK ?_|refine .inl ⟨wrap64 (by omega),?_⟩)<;>conv=>whnf))
  ·have e:=Z4m (l:=c.events) (n:=k) (k:=k2) (s:=c.events.getD k default) (by omega) h;have e:evE c.events k=9:=by simp[evE,hve,e,-List.getD_eq_getElem?_getD]
   exact PSub.int (by rw[Z06 (k:=k) (by omega) (by rw[e];decide) hinv1,e])
  ·refine⟨k2+1,[],⟨by omega,?_⟩,by first|omega|(dsimp only;omega),?_⟩;rotate_left
   ·exact QD
   intro j hj
   by_cases e:j=k2
   ·subst e;first|exact h|simpa[-List.getD_eq_getElem?_getD]using h|simp_all[-List.getD_eq_getElem?_getD]
   exact hinv j (by omega)
  have e:=Z7d (l:=c.events) (n:=k) (s:=c.events.getD k default) fun j hj=>hinv j (by omega)
  refine⟨k+1,[],⟨by omega,?_⟩,by first|omega|(dsimp only;omega),?_⟩;rotate_left
  ·exact QD
  intro j hj
  by_cases ee:j=k
  ·subst ee;simp[evE,hve,e,-List.getD_eq_getElem?_getD]
  exact hinv1 j (by omega)
 exact PSub.int (by rw[Z0c fun j hj=>hinv j (by omega)])
theorem Zkl(l:List Clu)(hl:smallKs l):AC Tryz.prog 103 [.pv (roL 4 cClu l)] [] (.pv (vint (allE l))) []:=by
 have hl1:l.length<=1048576:=hl.1;refine AC.of_awp (T:=T) T_ok hm Tryz.call103 Tryz.func103 rfl rfl rfl ?_
 conv=>whnf
 refine⟨fun h=>?_,fun h=>?_⟩<;>(try simp only[Q0,Q1,Q2,Q3,Q4,Q5,Q6,Q7,Q8,reduceCtorEq]at h)<;>(conv=>whnf)
 ·exact PSub.int (by rw[allE,qK (by omega)])
 rw[allE,qJ (by omega)];clear h;refine loop_k (ι:=Nat) [0,10] [] (fun k=>k<=l.length∧(∀j,j<k->cluE l j=0)) (fun k=>l.length-k) 0 (fun k=>[(11,.pv (vint k))]) (fun _=>[]) [] ⟨qe _,fun j h=>absurd h (by omega)⟩ ?_ (fun k hk=>?_)
 ·exact QD
 obtain⟨hkn,hinv⟩:=hk
 conv=>whnf
 repeat(any_goals((first|refine⟨QT ?_,QF ?_⟩<;>intro h<;>(try simp only[Q0,Q1,Q2,Q3,Q4,Q5,Q6,Q7,Q8,reduceCtorEq]at h)|refine .inl ⟨_,Zc6 (l.getD k default) (hl.2 k),?_⟩|refine QI ?_)<;>conv=>whnf))
 ·have e:cluE l k=checkE (l.getD k default):=by simp[cluE,h,-List.getD_eq_getElem?_getD]
  exact PSub.int (by rw[Z06 (k:=k) (by omega) (by rw[e];exact h) hinv,e])
 ·have hd:=h;have hinv1:=hinv;refine loop_k (ι:=Nat) [0,3,10,11] [] (fun k2=>k2<=k∧(∀j,j<k2->decide ((l.getD j default).name=(l.getD k default).name)=false)) (fun k2=>k-k2) 0 (fun k2=>[(5,.pv (vint k2))]) (fun _=>[]) [] ⟨qe _,fun j h=>absurd h (by omega)⟩ ?_ (fun k2 hk=>?_)
  ·exact QD
  obtain⟨hkn,hinv⟩:=hk
  conv=>whnf
  repeat(any_goals((first|refine⟨QT ?_,QF ?_⟩<;>intro h<;>(try simp only[Q0,Q1,Q2,Q3,Q4,Q5,Q6,Q7,Q8,reduceCtorEq]at h)|refine QI ?_|refine QK ?_|refine .inl ⟨wrap64 (by omega),?_⟩)<;>conv=>whnf))
  ·have e:=Z0a (n:=k) (k:=k2) (p:=fun j=>decide ((l.getD j default).name=(l.getD k default).name)) (by omega) (by simpa[-List.getD_eq_getElem?_getD]using h);have e:cluE l k=9:=by simp[cluE,hd,e,-List.getD_eq_getElem?_getD]
   exact PSub.int (by rw[Z06 (k:=k) (by omega) (by rw[e];decide) hinv1,e])
  ·refine⟨k2+1,[],⟨by omega,?_⟩,by first|omega|(dsimp only;omega),?_⟩;rotate_left
   ·exact QD
   intro j hj
   by_cases e:j=k2
   ·subst e;first|exact h|simpa[-List.getD_eq_getElem?_getD]using h|simp_all[-List.getD_eq_getElem?_getD]
   exact hinv j (by omega)
  have e:=Z0d (n:=k) (p:=fun j=>decide ((l.getD j default).name=(l.getD k default).name)) fun j hj=>hinv j (by omega)
  refine⟨k+1,[],⟨by omega,?_⟩,by first|omega|(dsimp only;omega),?_⟩;rotate_left
  ·exact QD
  intro j hj
  by_cases ee:j=k
  ·subst ee;simp[cluE,hd,e,-List.getD_eq_getElem?_getD]
  exact hinv1 j (by omega)
 exact PSub.int (by rw[Z0c fun j hj=>hinv j (by omega)])
def cluIx(l:List Clu)(s:ByteArray):Int:=if cluAt l s<l.length then(cluAt l s:Int)else -1
theorem Zca(H:Hom)(s:ByteArray)(hH:smallH H):AC Tryz.prog 73 [.pv (.agg (cHom H)),.pv (vstr s)] [] (.pv (vint (cluIx H.clusters s))) []:=by
 have hl:H.clusters.length<=1048576:=hH.1.1;refine AC.of_awp (T:=T) T_ok hm Tryz.call73 Tryz.func73 rfl rfl rfl ?_
 conv=>whnf
 refine loop_k (ι:=Nat) [1,2] [2] (fun k=>k<=H.clusters.length∧(∀j,j<k->decide ((H.clusters.getD j default).name=s)=false)) (fun k=>H.clusters.length-k) 0 (fun k=>[(5,.pv (vint k))]) (fun _=>[]) [] ⟨qe _,fun j h=>absurd h (by omega)⟩ ?_ (fun k hk=>?_)
 ·exact QD
 obtain⟨hkn,hinv⟩:=hk
 conv=>whnf
 repeat(any_goals((first|refine⟨QT ?_,QF ?_⟩<;>intro h<;>(try simp only[Q0,Q1,Q2,Q3,Q4,Q5,Q6,Q7,Q8,reduceCtorEq]at h)|refine QI ?_|refine .inl ⟨wrap64 (by omega),?_⟩)<;>conv=>whnf))
 ·have e:cluAt H.clusters s=k:=Z0u (by omega) (by simpa[-List.getD_eq_getElem?_getD]using h) hinv;exact PSub.int (by rw[cluIx,e,qK (by omega)])
 ·refine⟨k+1,[],⟨by omega,?_⟩,by first|omega|(dsimp only;omega),?_⟩;rotate_left
  ·exact QD
  intro j hj
  by_cases e:j=k
  ·subst e;first|exact h|simpa[-List.getD_eq_getElem?_getD]using h|simp_all[-List.getD_eq_getElem?_getD]
  exact hinv j (by omega)
 have e:cluAt H.clusters s=H.clusters.length:=Z0z fun j hj=>hinv j (by omega)
 exact PSub.int (by rw[cluIx,e,qJ (by omega)])
def devIx(l:List Dev)(id:Int):Int:=if devAt l id<l.length then(devAt l id:Int)else -1
theorem Zkr(H:Hom)(id:Int)(hH:smallH H):AC Tryz.prog 72 [.pv (.agg (cHom H)),.pv (vint id)] [] (.pv (vint (devIx H.devices id))) []:=by
 have hl:H.devices.length<=1048576:=hH.2.1;refine AC.of_awp (T:=T) T_ok hm Tryz.call72 Tryz.func72 rfl rfl rfl ?_
 conv=>whnf
 refine loop_k (ι:=Nat) [1,2] [2] (fun k=>k<=H.devices.length∧(∀j,j<k->decide ((H.devices.getD j default).id=id)=false)) (fun k=>H.devices.length-k) 0 (fun k=>[(5,.pv (vint k))]) (fun _=>[]) [] ⟨qe _,fun j h=>absurd h (by omega)⟩ ?_ (fun k hk=>?_)
 ·exact QD
 obtain⟨hkn,hinv⟩:=hk
 conv=>whnf
 repeat(any_goals((first|refine⟨QT ?_,QF ?_⟩<;>intro h<;>(try simp only[Q0,Q1,Q2,Q3,Q4,Q5,Q6,Q7,Q8,reduceCtorEq]at h)|refine QI ?_|refine .inl ⟨wrap64 (by omega),?_⟩)<;>conv=>whnf))
 ·have e:devAt H.devices id=k:=Z0u (by omega) (by simpa[-List.getD_eq_getElem?_getD]using h) hinv;exact PSub.int (by rw[devIx,e,qK (by omega)])
 ·refine⟨k+1,[],⟨by omega,?_⟩,by first|omega|(dsimp only;omega),?_⟩;rotate_left
  ·exact QD
  intro j hj
  by_cases e:j=k
  ·subst e;first|exact h|simpa[-List.getD_eq_getElem?_getD]using h|simp_all[-List.getD_eq_getElem?_getD]
  exact hinv j (by omega)
 have e:devAt H.devices id=H.devices.length:=Z0z fun j hj=>hinv j (by omega)
 exact PSub.int (by rw[devIx,e,qJ (by omega)])
theorem Z6x{l:List Clu}{s:ByteArray}:(cluIx l s<0∧firstC l s=none)∨∃k:Nat,cluIx l s=k∧k<l.length∧firstC l s=some (l.getD k default):=by
 rw[Z9i];unfold cluIx;split
 ·rename_i h;exact .inr ⟨_,rfl,h,rfl⟩
 exact .inl ⟨by omega,rfl⟩
theorem Zkv(H:Hom)(d:Dev)(hH:smallH H):AC Tryz.prog 169 [.pv (.agg (cHom H)),.pv (.agg (cDev d))] [] (.pv (vint (capE (firstC H.clusters) d))) []:=by
 have hl:H.clusters.length<=1048576:=hH.1.1;refine AC.of_awp (T:=T) T_ok hm Tryz.call169 Tryz.func169 rfl rfl rfl ?_
 conv=>whnf
 refine⟨fun h=>?_,fun h=>?_⟩
 ·conv=>whnf
  simp only[Q0]at h;exact PSub.int (by rw[capE,qK (by omega)])
 conv=>whnf
 refine⟨fun h=>?_,fun h=>?_⟩<;>(try simp only[Q0,Q1,Q2,Q3,Q4,Q5,Q6,Q7,Q8,reduceCtorEq]at h)<;>(conv=>whnf)
 ·exact PSub.int (by rw[capE,qK (by omega)])
 rename_i h0;simp only[Q1]at h0;rw[capE,qJ (by omega)];refine loop_k (ι:=Nat×Int) [2,3] [2,3] (fun i=>i.1<=d.clusters.length∧(0<=i.2∧i.2<=i.1*1048576)∧forI (capStep (firstC H.clusters) d) (d.clusters.length-i.1) i.1 i.2=forI (capStep (firstC H.clusters) d) d.clusters.length 0 0) (fun i=>d.clusters.length-i.1) (0,0) (fun i=>[(5,.pv (vint i.2)),(6,.pv (vint i.1))]) (fun _=>[]) [] ⟨qe _,by simp,rfl⟩ ?_ (fun i hk=>?_)
 ·exact QD
 obtain⟨k,n⟩:=i;obtain⟨hkn,hn,hfor⟩:=hk;simp only at hkn hn hfor
 conv=>whnf
 refine⟨fun h=>?_,fun h=>?_⟩<;>(try simp only[Q0,Q1,Q2,Q3,Q4,Q5,Q6,Q7,Q8,reduceCtorEq]at h)<;>(conv=>whnf)
 ·repeat(any_goals((first|refine⟨QT ?_,QF ?_⟩<;>intro h<;>(try simp only[Q0,Q1,Q2,Q3,Q4,Q5,Q6,Q7,Q8,reduceCtorEq]at h)|refine .inl ⟨_,Zca H (d.clusters.getD k default) hH,?_⟩|refine .inl ⟨_,Z1a d.clusters (d.clusters.getD k default) (by omega),?_⟩|refine QI ?_|refine QK ?_)<;>conv=>whnf))
  ·have hc:firstC H.clusters (d.clusters.getD k default)=none:=by
    rcases Z6x (l:=H.clusters) (s:=d.clusters.getD k default)with⟨_,e⟩|⟨j,e,_,_⟩
    ·exact e
    omega
   rw[Z71 hfor (by omega) (r:=8) (by rw[capStep,hc])];exact PSub.rfl
  ·rcases Z6x (l:=H.clusters) (s:=d.clusters.getD k default)with⟨_,_⟩|⟨j,e,hj,hc⟩
   ·omega
   rw[Z71 hfor (by omega) (r:=9) (by rw[capStep,hc];simp only;rw[qK h])];exact PSub.rfl
  rcases Z6x (l:=H.clusters) (s:=d.clusters.getD k default)with⟨_,_⟩|⟨j,e,hj,hc⟩
  ·omega
  rw[e];have hcl:(H.clusters.getD j default).attrs.length<=1048576:=(hH.1.2 j).1;refine qa (by omega) ?_
  conv=>whnf
  refine .inl ⟨wrap64 (by simp only[Q4];omega),?_⟩
  conv=>whnf
  repeat(any_goals((first|refine .inl ⟨wrap64 (by omega),?_⟩)<;>conv=>whnf))
  refine⟨(k+1,n+(H.clusters.getD j default).attrs.length),[],⟨by dsimp only;omega,⟨by dsimp only;omega,by dsimp only;omega⟩,Zeh hfor (by omega) (by rw[capStep,hc];simp only;rw[if_neg h])⟩,by dsimp only;omega,?_⟩
  all_goals exact QD
 rw[Zeg hfor (by omega)]
 repeat(any_goals((first|refine⟨QT ?_,QF ?_⟩<;>intro h<;>(try simp only[Q0,Q1,Q2,Q3,Q4,Q5,Q6,Q7,Q8,reduceCtorEq]at h))<;>conv=>whnf))
 ·exact PSub.int (by simp only;rw[qK h])
 exact PSub.int (by simp only;rw[qJ h])
set_option maxHeartbeats 2000000 in
theorem Zku(H:Hom)(i:Nat)(hH:smallH H)(hi:i<H.devices.length):AC Tryz.prog 104 [.pv (.agg (cHom H)),.pv (vint i)] [] (.pv (vint (devE (firstC H.clusters) H.devices i))) []:=by
 have hl:H.devices.length<=1048576:=hH.2.1;have hpi:(↑i-1:Int).toNat=i-1:=by omega
 refine AC.of_awp (T:=T) T_ok hm Tryz.call104 Tryz.func104 rfl rfl rfl ?_
 conv=>whnf
 repeat(any_goals((first|refine⟨QT ?_,QF ?_⟩<;>intro h<;>(try simp only[Q0,Q1,Q2,Q3,Q4,Q5,Q6,Q7,Q8,reduceCtorEq]at h)|refine QI ?_|refine QK ?_|refine .inl ⟨wrap64 (by omega),?_⟩)<;>conv=>whnf))
 all_goals try rw[hpi]at h
 all_goals try(exfalso;simp_all[-List.getD_eq_getElem?_getD];done)
 all_goals try(refine PSub.int ?_;simp only[devE,numB];simp_all[-List.getD_eq_getElem?_getD];done)
 all_goals try(refine PSub.int ?_;simp only[devE,numB];simp_all[-List.getD_eq_getElem?_getD];omega)
 all_goals trace "left"
 all_goals
  have e0:devE (firstC H.clusters) H.devices i=if anyN i (fun j=>decide ((H.devices.getD j default).eui=(H.devices.getD i default).eui))=true then 9 else if validName (H.devices.getD i default).room=false then 10 else capE (firstC H.clusters) (H.devices.getD i default):=by
   have hn:numB (H.devices.getD i default)=true:=by simp only[numB];simp_all[-List.getD_eq_getElem?_getD]
   simp only[devE];rw[hn];simp only[Bool.true_eq_false,if_false];rw[qJ (by omega)]
  rw[e0];refine loop_k (ι:=Nat) [1,2,5] [2,5] (fun k=>k<=i∧(∀j,j<k->decide ((H.devices.getD j default).eui=(H.devices.getD i default).eui)=false)) (fun k=>i-k) 0 (fun k=>[(6,.pv (vint k))]) (fun _=>[]) [] ⟨qe _,fun j h=>absurd h (by omega)⟩ ?_ (fun k hk=>?_)
  ·exact QD
  obtain⟨hkn,hinv⟩:=hk
  conv=>whnf
  clear e0
  repeat(any_goals((first|refine⟨QT ?_,QF ?_⟩<;>intro h<;>(try simp only[Q0,Q1,Q2,Q3,Q4,Q5,Q6,Q7,Q8,reduceCtorEq]at h)|refine .inl ⟨_,Z0p (H.devices.getD i default).room,?_⟩|refine .inl ⟨_,Zkv H (H.devices.getD i default) hH,?_⟩|refine QI ?_|refine QK ?_|refine .inl ⟨wrap64 (by omega),?_⟩)<;>conv=>whnf))
  ·have e:=Z0a (n:=i) (k:=k) (p:=fun j=>decide ((H.devices.getD j default).eui=(H.devices.getD i default).eui)) (by omega) (by simpa[-List.getD_eq_getElem?_getD]using h);exact PSub.int (by rw[qK e])
  ·refine⟨k+1,[],⟨by omega,?_⟩,by first|omega|(dsimp only;omega),?_⟩;rotate_left
   ·exact QD
   intro j hj
   by_cases e:j=k
   ·subst e;first|exact h|simpa[-List.getD_eq_getElem?_getD]using h|simp_all[-List.getD_eq_getElem?_getD]
   exact hinv j (by omega)
  ·have e:=Z0d (n:=i) (p:=fun j=>decide ((H.devices.getD j default).eui=(H.devices.getD i default).eui)) (fun j hj=>hinv j (by omega));exact PSub.int (by rw[e,qJ (by simp),qK h])
  have e:=Z0d (n:=i) (p:=fun j=>decide ((H.devices.getD j default).eui=(H.devices.getD i default).eui)) (fun j hj=>hinv j (by omega));exact PSub.int (by rw[e,qJ (by simp),qJ (by rw[h];decide)])
theorem Z8b(H:Hom)(hH:smallH H):AC Tryz.prog 60 [.pv (.agg (cHom H))] [] (.pv (vint (homE H))) []:=by
 have hl:H.devices.length<=1048576:=hH.2.1;refine AC.of_awp (T:=T) T_ok hm Tryz.call60 Tryz.func60 rfl rfl rfl ?_
 conv=>whnf
 refine .inl ⟨_,Zkl H.clusters hH.1,?_⟩
 conv=>whnf
 refine⟨fun h=>?_,fun h=>?_⟩<;>(try simp only[Q0,Q1,Q2,Q3,Q4,Q5,Q6,Q7,Q8,reduceCtorEq]at h)<;>(conv=>whnf)
 ·exact PSub.int (by rw[homE,qK h])
 rw[homE,qJ (by simpa using h)];refine⟨fun h=>?_,fun h=>?_⟩<;>(try simp only[Q0,Q1,Q2,Q3,Q4,Q5,Q6,Q7,Q8,reduceCtorEq]at h)<;>(conv=>whnf)
 ·exact PSub.int (by rw[qK (by omega)])
 rw[qJ (by omega)];refine loop_k (ι:=Nat) [1] [1] (fun k=>k<=H.devices.length∧(∀j,j<k->devE (firstC H.clusters) H.devices j=0)) (fun k=>H.devices.length-k) 0 (fun k=>[(4,.pv (vint k))]) (fun _=>[]) [] ⟨qe _,fun j h=>absurd h (by omega)⟩ ?_ (fun k hk=>?_)
 ·exact QD
 obtain⟨hkn,hinv⟩:=hk
 conv=>whnf
 refine⟨fun h=>?_,fun h=>?_⟩<;>(try simp only[Q0,Q1,Q2,Q3,Q4,Q5,Q6,Q7,Q8,reduceCtorEq]at h)<;>(conv=>whnf)
 ·refine .inl ⟨_,Zku H k hH (by omega),?_⟩
  conv=>whnf
  repeat(any_goals((first|refine⟨QT ?_,QF ?_⟩<;>intro h<;>(try simp only[Q0,Q1,Q2,Q3,Q4,Q5,Q6,Q7,Q8,reduceCtorEq]at h)|refine .inl ⟨wrap64 (by omega),?_⟩)<;>conv=>whnf))
  ·exact PSub.int (by rw[Z06 (k:=k) (by omega) h hinv])
  refine⟨k+1,[],⟨by omega,?_⟩,by first|omega|(dsimp only;omega),?_⟩;rotate_left
  ·exact QD
  intro j hj
  by_cases e:j=k
  ·subst e;first|exact h|simpa[-List.getD_eq_getElem?_getD]using h|simp_all[-List.getD_eq_getElem?_getD]
  exact hinv j (by omega)
 exact PSub.int (by rw[Z0c fun j hj=>hinv j (by omega)])
theorem Z53(a b:Key):AC Tryz.prog 21 [.pv (.agg (cKey a)),.pv (.agg (cKey b))] [] (.pv (vbool (keyLess a b))) []:=by
 refine AC.of_awp (T:=T) T_ok hm Tryz.call21 Tryz.func21 rfl rfl rfl ?_
 conv=>whnf
 repeat(any_goals((first|refine⟨QT ?_,QF ?_⟩<;>intro h<;>(try simp only[Q0,Q1,Q2,Q3,Q4,Q5,Q6,Q7,Q8,reduceCtorEq]at h))<;>conv=>whnf))
 all_goals(try simp only[Q0,Q1,Q2,Q3,Q4,Q5,Q6,Q7,Q8,reduceCtorEq]at *)
 all_goals first
  |contradiction
  |(exfalso;omega)
  |exact PSub.rfl
  |(refine PSub.int ?_;simp only[keyLess];(repeat' split)<;>first|rfl|omega|(simp_all[-List.getD_eq_getElem?_getD];done)|(simp_all[-List.getD_eq_getElem?_getD];omega))
  |(refine PSub.sb ?_;simp_all[keyLess,-List.getD_eq_getElem?_getD];done)
  |(refine PSub.lit_sb ?_;simp_all[keyLess,-List.getD_eq_getElem?_getD];done)
  |(refine PSub.sb_lit ?_;simp_all[keyLess,-List.getD_eq_getElem?_getD];done)
  |(refine PSub.sb ?_;rw[qt];simp_all[keyLess,-List.getD_eq_getElem?_getD];done)
  |(refine PSub.lit_sb ?_;rw[qt];simp_all[keyLess,-List.getD_eq_getElem?_getD];done)
  |(refine PSub.sb_lit ?_;rw[qt];simp_all[keyLess,-List.getD_eq_getElem?_getD];done)
  |skip
theorem Zdt{H:Hom}{id:Int}(hv:homE H=0):(devIx H.devices id<0∧findB H id=false)∨(devIx H.devices id=(devAt H.devices id:Int)∧devAt H.devices id<H.devices.length∧findB H id=true∧findD H id=H.devices.getD (devAt H.devices id) default):=by
 have:findB H id=decide (devAt H.devices id<H.devices.length):=by simp[findB,hv]
 unfold devIx;split
 ·rename_i h;have e:findB H id=true:=by simp[this,h]
  exact .inr ⟨rfl,h,e,by rw[findD,qK e]⟩
 rename_i h;exact .inl ⟨by omega,by simp[this,h]⟩
theorem Zo5{c:Clu}{s:ByteArray}:attrOf c.attrs s=(attrO (some c) s).getD noAttr∧decide (attrAt c.attrs s<c.attrs.length)=(attrO (some c) s).isSome:=by
 unfold attrOf attrO;simp only;split<;>simp[*]
theorem Z6e(H:Hom)(id:Int)(s:ByteArray)(hH:smallH H):AC Tryz.prog 42 [.pv (.agg (cHom H)),.pv (vint id),.pv (vstr s)] [] (.pv (.tup [.agg (cClu ((partO H id s).getD noClu)),vbool (partO H id s).isSome])) []:=by
 have hl:H.clusters.length<=1048576:=hH.1.1;have hd4:=@Z6v H id;refine AC.of_awp (T:=T) T_ok hm Tryz.call42 Tryz.func42 rfl rfl rfl ?_
 conv=>whnf
 refine .inl ⟨_,Zkr H id hH,?_⟩
 conv=>whnf
 refine⟨fun h=>?_,fun h=>?_⟩
 ·simp only[Q0]at h
  conv=>whnf
  have e:partO H id s=none:=by
   rw[partO,qJ]
   rintro ⟨h1,_⟩
   simp only[findB,qc,Q0]at h1;rcases Zdt (id:=id) h1.1 with h2|h2
   ·have:=h2.2;simp[findB,h1]at this
   omega
  rw[e];refine⟨?_,?_⟩<;>(conv=>whnf)
  ·exact Z4n
  exact PSub.lit_sb rfl
 simp only[Q1]at h
 conv=>whnf
 refine .inl ⟨_,Z8b H hH,?_⟩
 conv=>whnf
 refine⟨fun hv=>?_,fun hv=>?_⟩
 ·conv=>whnf
  simp at hv;have e:partO H id s=none:=by rw[partO,qJ (by simp[findB,hv])]
  rw[e];refine⟨?_,?_⟩<;>(conv=>whnf)
  ·exact Z4n
  exact PSub.lit_sb rfl
 simp at hv;rcases Zdt (id:=id) hv with h2|⟨h2,h3,h4,h5⟩
 ·omega
 rw[h2]
 conv=>whnf
 refine qa (by omega) ?_;rw[Q4]
 conv=>whnf
 have hcap:=Z9h h4
 repeat(any_goals((first|refine⟨QT ?_,QF ?_⟩<;>intro h<;>(try simp only[Q0,Q1,Q2,Q3,Q4,Q5,Q6,Q7,Q8,reduceCtorEq]at h)|refine .inl ⟨_,Z1a (H.devices.getD (devAt H.devices id) default).clusters s (by rw[<-h5];omega),?_⟩|refine QK ?_)<;>conv=>whnf))
 all_goals rw[<-h5]at h
 ·have e:partO H id s=none:=by rw[partO,qJ (by omega)]
  rw[e];refine⟨?_,?_⟩<;>(conv=>whnf)
  ·exact Z4n
  exact PSub.lit_sb rfl
 have hp:partO H id s=firstC H.clusters s:=by rw[partO,qK ⟨h4,by omega⟩]
 obtain⟨i,hi,he⟩:=Zev (by omega:0<=idxOf (findD H id).clusters s);obtain⟨c,h1⟩:=Zdg hcap hi;rw[he]at h1
 repeat(any_goals((first|refine .inl ⟨_,Zca H s hH,?_⟩)<;>conv=>whnf))
 rcases Z6x (l:=H.clusters) (s:=s)with⟨_,h6⟩|⟨j,h6,h7,h8⟩
 ·rw[h1]at h6;cases h6
 rw[h6]
 repeat(any_goals((first|refine QI ?_|refine QK ?_)<;>conv=>whnf))
 rw[hp,h8];refine⟨?_,?_⟩<;>(conv=>whnf)
 ·exact .rfl
 exact PSub.lit_sb rfl
theorem Z40(H:Hom)(k:Key)(hH:smallH H):AC Tryz.prog 19 [.pv (.agg (cHom H)),.pv (.agg (cKey k))] [] (.pv (.tup [.agg (cAttr ((findA H k).getD noAttr)),vbool (findA H k).isSome])) []:=by
 refine AC.of_awp (T:=T) T_ok hm Tryz.call19 Tryz.func19 rfl rfl rfl ?_
 conv=>whnf
 repeat(any_goals((first|refine⟨QT ?_,QF ?_⟩<;>intro h<;>(try simp only[Q0,Q1,Q2,Q3,Q4,Q5,Q6,Q7,Q8,reduceCtorEq]at h)|refine .inl ⟨_,Z6e H k.dev k.cluster hH,?_⟩|refine .inl ⟨_,Zc5 ((partO H k.dev k.cluster).getD noClu) k.attr (Zb7 hH),?_⟩)<;>conv=>whnf))
 ·have e:findA H k=none:=by
   rw[findA];cases h3:partO H k.dev k.cluster with
   |none=>rfl
   |some c=>rw[h3]at h;cases h
  rw[e];refine⟨?_,?_⟩<;>(conv=>whnf)
  ·exact Z5p
  exact PSub.lit_sb rfl
 cases h3:partO H k.dev k.cluster with
 |none=>rw[h3]at h;cases h
 |some c=>
  rw[findA,h3];obtain⟨e1,e2⟩:=@Zo5 c k.attr;refine⟨?_,?_⟩<;>(conv=>whnf)
  ·simp only[Option.getD_some];rw[e1];exact .rfl
  simp only[Option.getD_some];rw[e2];exact .rfl
theorem Zkt(l:List Item)(k:Key)(hl:smallL l):AC Tryz.prog 184 [.pv (roL 7 cItem l),.pv (.agg (cKey k))] [] (.pv (vint (ixI l.length (itemAt l k)))) []:=by
 have hl:l.length<=1048576:=hl;have hk (x:Item):(decide (x.key.dev=k.dev)&&(decide (x.key.cluster=k.cluster)&&(decide (x.key.attr=k.attr)&&true)))=decide (x.key=k):=by
  obtain⟨⟨a,b,c⟩,v,n⟩:=x;obtain⟨d,e,f⟩:=k;rw[qt];simp
 refine AC.of_awp (T:=T) T_ok hm Tryz.call184 Tryz.func184 rfl rfl rfl ?_
 conv=>whnf
 refine loop_k (ι:=Nat) [0,3] [3] (fun i=>i<=l.length∧(∀j,j<i->decide ((l.getD j default).key=k)=false)) (fun i=>l.length-i) 0 (fun i=>[(5,.pv (vint i))]) (fun _=>[]) [] ⟨qe _,fun j h=>absurd h (by omega)⟩ ?_ (fun i hk=>?_)
 ·exact QD
 obtain⟨hkn,hinv⟩:=hk
 conv=>whnf
 repeat(any_goals((first|refine⟨QT ?_,QF ?_⟩<;>intro h<;>(try simp only[Q0,Q1,Q2,Q3,Q4,Q5,Q6,Q7,Q8,reduceCtorEq]at h)|refine QI ?_|refine QK ?_|refine .inl ⟨wrap64 (by omega),?_⟩)<;>conv=>whnf))
 ·rw[hk]at h;have e:itemAt l k=i:=Z0u (by omega) h hinv;exact PSub.int (by rw[e,ixI,qK (by omega)])
 ·rw[hk]at h;refine⟨i+1,[],⟨by omega,?_⟩,by first|omega|(dsimp only;omega),?_⟩;rotate_left
  ·exact QD
  intro j hj
  by_cases e:j=i
  ·subst e;first|exact h|simpa[-List.getD_eq_getElem?_getD]using h|simp_all[-List.getD_eq_getElem?_getD]
  exact hinv j (by omega)
 have e:itemAt l k=l.length:=Z0z fun j hj=>hinv j (by omega)
 exact PSub.int (by rw[e,ixI,qJ (by omega)])
theorem Zc9(l:List Item)(k:Key)(hl:smallL l):AC Tryz.prog 116 [.pv (roL 7 cItem l),.pv (.agg (cKey k))] [] (.pv (.tup [.agg (cItem (getI l k)),vbool (decide (itemAt l k<l.length))])) []:=by
 refine AC.of_awp (T:=T) T_ok hm Tryz.call116 Tryz.func116 rfl rfl rfl ?_
 conv=>whnf
 refine .inl ⟨_,Zkt l k hl,?_⟩
 conv=>whnf
 unfold ixI
 by_cases hlt:itemAt l k<l.length
 ·rw[qK hlt]
  repeat(any_goals((first|refine⟨QT ?_,QF ?_⟩<;>intro h<;>(try simp only[Q0,Q1,Q2,Q3,Q4,Q5,Q6,Q7,Q8,reduceCtorEq]at h)|refine QI ?_)<;>conv=>whnf))
  ·exfalso;omega
  refine⟨?_,?_⟩<;>(conv=>whnf)
  ·exact PSub.of_eq (by rw[getI,qK hlt];rfl)
  exact PSub.lit_sb (by simp[hlt])
 rw[qJ hlt]
 repeat(any_goals((first|refine⟨QT ?_,QF ?_⟩<;>intro h<;>(try simp only[Q0,Q1,Q2,Q3,Q4,Q5,Q6,Q7,Q8,reduceCtorEq]at h)|refine QI ?_)<;>conv=>whnf))
 ·refine⟨?_,?_⟩<;>(conv=>whnf)
  ·exact PSub.of_eq (by rw[getI,qJ hlt];rfl)
  exact PSub.lit_sb (by simp[hlt])
 exfalso;omega
open Go.Proofs Go.RowKit
section
variable {H:Type} {enc:TypeId×Value->H} {w:World} {bulk:DataW H->Nat}
theorem Zsz:Opens enc Tryz.prog w bulk BB 124 (fun n:Int=>[.val (.int .u64 n)]) (fun _=>True):=(Opens.int Tryz.underlying124).imp id (fun _=>rfl) (fun _ _=>trivial)
theorem Z5q:Opens enc Tryz.prog w bulk BB 4 (fun b:Bool=>[vbool b]) (fun _=>True):=Opens.bool Tryz.underlying4
def goodItem(x:Item):Prop:=goodKey x.key∧goodVal x.value∧inI64 x.version
theorem Zsc(hB:BulkOk bulk):Opens enc Tryz.prog w bulk BB 107 cItem goodItem:=
 (Opens.struct hB Tryz.underlying107 (by kernel_rfl) (.cons (size:=3) rfl (by kernel_rfl) (op_Key hB) (.cons (size:=3) rfl (by kernel_rfl) (Zae hB) (.cons (size:=1) rfl (by kernel_rfl) op_int .nil)))).imp (fun x=>⟨x.1,x.2.1,x.2.2.1⟩) (fun _=>rfl) (fun _ h=>⟨h.1,h.2.1,h.2.2.1⟩)
def goodItems(l:List Item):Prop:=smallL l∧∀i,i<l.length->goodItem (l.getD i default)
theorem Zgm(hB:BulkOk bulk):Opens enc Tryz.prog w bulk BB 31 (fun l:List Item=>[roL 7 cItem l]) goodItems:=
 (Opens.slice hB Tryz.underlying31 (by kernel_rfl) (by decide) (Zsc hB)).imp id (fun _=>rfl) (fun _ h=>h)
theorem Zgk(hB:BulkOk bulk):Opens enc Tryz.prog w bulk BB 70 cAttr smallA:=
 (Opens.struct hB Tryz.underlying70 (by kernel_rfl) (.cons (size:=1) rfl (by kernel_rfl) (Z0k hB) (.cons (size:=1) rfl (by kernel_rfl) op_int (.cons (size:=1) rfl (by kernel_rfl) op_int (.cons (size:=1) rfl (by kernel_rfl) op_int (.cons (size:=1) rfl (by kernel_rfl) (Z2k hB) (.cons (size:=1) rfl (by kernel_rfl) Z5q (.cons (size:=1) rfl (by kernel_rfl) Z5q .nil)))))))).imp
  (fun x=>⟨x.1,x.2.1,x.2.2.1,x.2.2.2.1,x.2.2.2.2.1,x.2.2.2.2.2.1,x.2.2.2.2.2.2.1⟩) (fun _=>rfl) (fun _ h=>h.2.2.2.2.1)
theorem Z73{α:Type}[Inhabited α]{l:List α}{p:α->Prop}(h:∀i,i<l.length->p (l.getD i default))(hd:p default)(i:Nat):p (l.getD i default):=by
 by_cases hi:i<l.length
 ·exact h i hi
 have:l.getD i default=default:=by simp[List.getD,Nat.le_of_not_lt hi]
 rw[this];exact hd
theorem Zsm(hB:BulkOk bulk):Opens enc Tryz.prog w bulk BB 110 (fun l:List Attr=>[roL 7 cAttr l]) (fun l=>smallL l∧∀i,smallA (l.getD i default)):=
 (Opens.slice hB Tryz.underlying110 (by kernel_rfl) (by decide) (Zgk hB)).imp id (fun _=>rfl) (fun _ h=>⟨h.1,Z73 h.2 (qe _)⟩)
theorem Zs6(hB:BulkOk bulk):Opens enc Tryz.prog w bulk BB 160 cEff (fun _=>True):=
 (Opens.struct hB Tryz.underlying160 (by kernel_rfl) (.cons (size:=1) rfl (by kernel_rfl) op_int (.cons (size:=1) rfl (by kernel_rfl) (Z0k hB) (.cons (size:=1) rfl (by kernel_rfl) op_int .nil)))).imp (fun x=>⟨x.1,x.2.1,x.2.2.1⟩) (fun _=>rfl) (fun _ _=>trivial)
theorem Zsq(hB:BulkOk bulk):Opens enc Tryz.prog w bulk BB 155 (fun l:List Eff=>[roL 3 cEff l]) smallL:=
 (Opens.slice hB Tryz.underlying155 (by kernel_rfl) (by decide) (Zs6 hB)).imp id (fun _=>rfl) (fun _ h=>h.1)
theorem Zs4(hB:BulkOk bulk):Opens enc Tryz.prog w bulk BB 157 cCmd smallC:=
 (Opens.struct hB Tryz.underlying157 (by kernel_rfl) (.cons (size:=1) rfl (by kernel_rfl) (Z0k hB) (.cons (size:=7) rfl (by kernel_rfl) (Zgk hB) (.cons (size:=1) rfl (by kernel_rfl) (Zsq hB) .nil)))).imp (fun x=>⟨x.1,x.2.1,x.2.2.1⟩) (fun _=>rfl) (fun _ h=>⟨h.2.1,h.2.2.1⟩)
theorem Zso(hB:BulkOk bulk):Opens enc Tryz.prog w bulk BB 111 (fun l:List Cmd=>[roL 9 cCmd l]) (fun l=>smallL l∧∀i,smallC (l.getD i default)):=
 (Opens.slice hB Tryz.underlying111 (by kernel_rfl) (by decide) (Zs4 hB)).imp id (fun _=>rfl) (fun _ h=>⟨h.1,Z73 h.2 ⟨qe _,qe _⟩⟩)
theorem Zs3(hB:BulkOk bulk):Opens enc Tryz.prog w bulk BB 113 cClu smallK:=
 (Opens.struct hB Tryz.underlying113 (by kernel_rfl) (.cons (size:=1) rfl (by kernel_rfl) (Z0k hB) (.cons (size:=1) rfl (by kernel_rfl) (Zsm hB) (.cons (size:=1) rfl (by kernel_rfl) (Zso hB) (.cons (size:=1) rfl (by kernel_rfl) (Z2k hB) .nil))))).imp (fun x=>⟨x.1,x.2.1,x.2.2.1,x.2.2.2.1⟩) (fun _=>rfl) (fun _ h=>⟨h.2.1.1,h.2.1.2,h.2.2.1.1,h.2.2.1.2,h.2.2.2.1⟩)
theorem Zue:smallK default:=⟨qe _,fun _=>qe _,qe _,fun _=>⟨qe _,qe _⟩,qe _⟩
theorem Zsn(hB:BulkOk bulk):Opens enc Tryz.prog w bulk BB 22 (fun l:List Clu=>[roL 4 cClu l]) smallKs:=
 (Opens.slice hB Tryz.underlying22 (by kernel_rfl) (by decide) (Zs3 hB)).imp id (fun _=>rfl) (fun _ h=>⟨h.1,Z73 h.2 Zue⟩)
theorem Zs5(hB:BulkOk bulk):Opens enc Tryz.prog w bulk BB 126 cDev smallD:=
 (Opens.struct hB Tryz.underlying126 (by kernel_rfl) (.cons (size:=1) rfl (by kernel_rfl) op_int (.cons (size:=1) rfl (by kernel_rfl) Zsz (.cons (size:=1) rfl (by kernel_rfl) op_int (.cons (size:=1) rfl (by kernel_rfl) Z5q (.cons (size:=1) rfl (by kernel_rfl) op_int (.cons (size:=1) rfl (by kernel_rfl) (Z0k hB) (.cons (size:=1) rfl (by kernel_rfl) (Z2k hB) .nil)))))))).imp
  (fun x=>⟨x.1,x.2.1,x.2.2.1,x.2.2.2.1,x.2.2.2.2.1,x.2.2.2.2.2.1,x.2.2.2.2.2.2.1⟩) (fun _=>rfl) (fun _ h=>⟨h.2.2.2.2.2.2.1,h.1.1,h.1.2⟩)
theorem Zsp(hB:BulkOk bulk):Opens enc Tryz.prog w bulk BB 23 (fun l:List Dev=>[roL 7 cDev l]) (fun l=>smallL l∧∀i,smallD (l.getD i default)):=
 (Opens.slice hB Tryz.underlying23 (by kernel_rfl) (by decide) (Zs5 hB)).imp id (fun _=>rfl) (fun _ h=>⟨h.1,Z73 h.2 ⟨qe _,by decide,by decide⟩⟩)
theorem Zsb(hB:BulkOk bulk):Opens enc Tryz.prog w bulk BB 25 cHom smallH:=
 (Opens.struct hB Tryz.underlying25 (by kernel_rfl) (.cons (size:=1) rfl (by kernel_rfl) (Zsn hB) (.cons (size:=1) rfl (by kernel_rfl) (Zsp hB) .nil))).imp (fun x=>⟨x.1,x.2.1⟩) (fun _=>rfl) (fun _ h=>⟨h.1,h.2.1.1,h.2.1.2⟩)
end
variable [Globals]
namespace Ex
end Ex
mutual
/-- homehubref28.walk -/
def wlkE:Ex->Int->Int->Int×Int
 | .mk a n m s v q ks,l,c=>
  if 24<l then(c,22)else if 200<=c then(c,3)else if nodeE (.mk a n m s v q ks)≠0 then(c,nodeE (.mk a n m s v q ks))else wlkL ks (l+1) (c+1)
def wlkL:List Ex->Int->Int->Int×Int
 | [],_,c=>(c,0)
 |e::es,l,c=>if(wlkE e l c).2≠0 then wlkE e l c else wlkL es l (wlkE e l c).1
end
theorem Zx8(e:Ex)(l c:Int):wlkE e l c=if 24<l then(c,22)else if 200<=c then(c,3)else if nodeE e≠0 then(c,nodeE e)else wlkL e.kids (l+1) (c+1):=by
 cases e;rw[wlkE];rfl
mutual
theorem Ziy:∀(e:Ex) (l c:Int),(wlkE e l c).2=(chkE e l c).2∧((chkE e l c).2=0->(wlkE e l c).1=(chkE e l c).1)
 | .mk a n m s v q ks,l,c=>by
  rw[wlkE,chkE]
  by_cases h1:24<l
  ·simp[h1]
  by_cases h2:200<=c
  ·have h2':200<c+1:=by omega
   simp[h1,h2,h2']
  have h2':¬200<c+1:=by omega
  simp only[qJ h1,qJ h2,qJ h2']
  by_cases h3:nodeE (.mk a n m s v q ks)≠0
  ·simp only[qK h3];exact⟨trivial,fun h=>absurd h h3⟩
  simp only[qJ h3];exact Ziz ks (l+1) (c+1)
theorem Ziz:∀(ks:List Ex) (l c:Int),(wlkL ks l c).2=(chkL ks l c).2∧((chkL ks l c).2=0->(wlkL ks l c).1=(chkL ks l c).1)
 | [],l,c=>by simp[wlkL,chkL]
 |e::es,l,c=>by
  obtain⟨h1,h2⟩:=Ziy e l c;rw[wlkL,chkL]
  by_cases h:(chkE e l c).2≠0
  ·rw[qK (by rw[h1];exact h),qK h];exact⟨h1,h2⟩
  rw[qJ (by rw[h1];exact h),qJ h,h2 (by simpa using h)];exact Ziz es l _
end
mutual
theorem wlkE_b:∀(e:Ex) (l c:Int),0<=c->c<=200->0<=(wlkE e l c).1∧(wlkE e l c).1<=200
 | .mk a n m s v q ks,l,c,h0,h1=>by
  rw[wlkE];split
  ·exact⟨h0,h1⟩
  split
  ·exact⟨h0,h1⟩
  split
  ·exact⟨h0,h1⟩
  exact wlkL_b ks (l+1) (c+1) (by omega) (by omega)
theorem wlkL_b:∀(ks:List Ex) (l c:Int),0<=c->c<=200->0<=(wlkL ks l c).1∧(wlkL ks l c).1<=200
 | [],l,c,h0,h1=>by rw[wlkL];exact⟨h0,h1⟩
 |e::es,l,c,h0,h1=>by
  obtain⟨h2,h3⟩:=wlkE_b e l c h0 h1;rw[wlkL];split
  ·exact⟨h2,h3⟩
  exact wlkL_b es l _ h2 h3
end
theorem Zhv:∀(l:List Ex) (k:Nat),k<l.length->sizeL (l.take (k+1))=sizeL (l.take k)+sizeE (l.getD k default)
 |e::l,0,_=>by simp[sizeL]
 |e::l,k+1,h=>by
  have:=Zhv l k (by simpa using h);simp only[List.take_succ_cons,sizeL,this,List.getD_cons_succ];omega
theorem Zht{l:List Ex}{e:Ex}(h:e∈l):sizeE e<=sizeL l:=by
 induction l with
 |nil=>simp at h
 |cons x l ih=>
  rw[sizeL];rcases qk.1 h with rfl|h
  ·omega
  have:=ih h;omega
theorem Zud{l:List Ex}:l.length<=sizeL l:=by
 induction l with
 |nil=>simp
 |cons x l ih=>rw[sizeL,Z26];simp;omega
theorem Zhs{l:List Ex}{k:Nat}:sizeL (l.take k)<=sizeL l:=by
 induction l generalizing k with
 |nil=>simp
 |cons x l ih=>
  cases k with
  |zero=>simp[sizeL]
  |succ k=>have:=@ih k;simp only[List.take_succ_cons,sizeL];omega
end Go.Abs
namespace Go.Abs
open Go.Proofs
set_option maxRecDepth 10000
theorem Za2{a b:Key}(h:keyLess a b=true):keyLess b a=false:=by
 rw[<-Bool.not_eq_true];intro k;have:=Z3h h k;rw[Z15]at this;cases this
def kidLo(k:Int):Int:=if k=6 then 1 else if k=7∨k=8 then 2 else if 9<=k∧k<=13 then 2 else if k=14 then 3 else 0
def kidHi(k:Int):Int:=if k=6 then 1 else if k=7∨k=8 then 8 else if 9<=k∧k<=13 then 2 else if k=14 then 3 else 0
theorem Zqz(k n:Int)(h:0<=n):kidsB k n=decide (kidLo k<=n∧n<=kidHi k):=by
 unfold kidsB kidLo kidHi;(repeat' split)<;>(rw[qt];simp)<;>omega
theorem Zkx(k:Int):AC Tryz.prog 258 [.pv (vint k)] [] (.pv (.tup [vint (kidLo k),vint (kidHi k)])) []:=by
 refine AC.of_awp (T:=T) T_ok hm Tryz.call258 Tryz.func258 rfl rfl rfl ?_
 conv=>whnf
 repeat(any_goals((first|refine⟨QT ?_,QF ?_⟩<;>intro h<;>(try simp only[Q0,Q1,Q2,Q3,Q4,Q5,Q6,Q7,Q8,reduceCtorEq]at h)|refine QI ?_)<;>conv=>whnf))
 all_goals(try(refine qa ?_ ?_<;>(conv=>whnf)))
 all_goals first
  |contradiction
  |(exfalso;omega)
  |exact PSub.rfl
  |(refine PSub.lit_sb ?_;(first|(simp[kidLo,kidHi, *];done)|(simp_all[kidLo,kidHi];done)|((try simp only[kidLo,kidHi]);(repeat' split)<;>(try simp only[qh,qj,qd,Q1,qc,Q0,Q6])<;>first|rfl|omega|(simp_all;done)|(simp_all;omega))))
  |(refine PSub.sb ?_;(first|(simp[kidLo,kidHi, *];done)|(simp_all[kidLo,kidHi];done)|((try simp only[kidLo,kidHi]);(repeat' split)<;>(try simp only[qh,qj,qd,Q1,qc,Q0,Q6])<;>first|rfl|omega|(simp_all;done)|(simp_all;omega))))
  |(refine PSub.sb_lit ?_;(first|(simp[kidLo,kidHi, *];done)|(simp_all[kidLo,kidHi];done)|((try simp only[kidLo,kidHi]);(repeat' split)<;>(try simp only[qh,qj,qd,Q1,qc,Q0,Q6])<;>first|rfl|omega|(simp_all;done)|(simp_all;omega))))
  |(refine PSub.int ?_;(first|(simp[kidLo,kidHi, *];done)|(simp_all[kidLo,kidHi];done)|((try simp only[kidLo,kidHi]);(repeat' split)<;>(try simp only[qh,qj,qd,Q1,qc,Q0,Q6])<;>first|rfl|omega|(simp_all;done)|(simp_all;omega))))
  |skip
theorem Zkz(e:Ex):AC Tryz.prog 259 [.pv (.agg (cEx e))] [] (.pv (vbool (!spareB e))) []:=by
 refine AC.of_awp (T:=T) T_ok hm Tryz.call259 Tryz.func259 rfl rfl rfl ?_
 conv=>whnf
 repeat(any_goals((first|refine⟨QT ?_,QF ?_⟩<;>intro h<;>(try simp only[Q0,Q1,Q2,Q3,Q4,Q5,Q6,Q7,Q8,reduceCtorEq]at h))<;>conv=>whnf))
 all_goals(try simp only[Z3x,Z3i,decide_true,Bool.and_true,Q1,Q0]at *)
 all_goals first
  |contradiction
  |(exfalso;omega)
  |exact PSub.rfl
  |(refine PSub.lit_sb ?_;(first|(simp[spareB, *];done)|(simp_all[spareB];done)|((try simp only[spareB]);(repeat' split)<;>(try simp only[qh,qj,qd,Q1,qc,Q0,Q6])<;>first|rfl|omega|(simp_all;done)|(simp_all;omega))))
  |(refine PSub.sb ?_;(first|(simp[spareB, *];done)|(simp_all[spareB];done)|((try simp only[spareB]);(repeat' split)<;>(try simp only[qh,qj,qd,Q1,qc,Q0,Q6])<;>first|rfl|omega|(simp_all;done)|(simp_all;omega))))
  |(refine PSub.sb_lit ?_;(first|(simp[spareB, *];done)|(simp_all[spareB];done)|((try simp only[spareB]);(repeat' split)<;>(try simp only[qh,qj,qd,Q1,qc,Q0,Q6])<;>first|rfl|omega|(simp_all;done)|(simp_all;omega))))
  |(refine PSub.int ?_;(first|(simp[spareB, *];done)|(simp_all[spareB];done)|((try simp only[spareB]);(repeat' split)<;>(try simp only[qh,qj,qd,Q1,qc,Q0,Q6])<;>first|rfl|omega|(simp_all;done)|(simp_all;omega))))
  |skip
set_option maxHeartbeats 2000000 in
theorem Zky(e:Ex):AC Tryz.prog 232 [.pv (.agg (cEx e))] [] (.pv (vint (nodeE e))) []:=by
 have hk:=Zqz e.kind e.kids.length (by omega);refine AC.of_awp (T:=T) T_ok hm Tryz.call232 Tryz.func232 rfl rfl rfl ?_
 conv=>whnf
 repeat(any_goals((first|refine⟨QT ?_,QF ?_⟩<;>intro h<;>(try simp only[Q0,Q1,Q2,Q3,Q4,Q5,Q6,Q7,Q8,reduceCtorEq]at h)|refine .inl ⟨_,Zkx e.kind,?_⟩|refine .inl ⟨_,Zkz e,?_⟩|refine .inl ⟨_,Z0p e.name,?_⟩|refine .inl ⟨_,Z0p e.key.cluster,?_⟩|refine .inl ⟨_,Z0p e.key.attr,?_⟩|refine .inl ⟨_,Z89 e.value,?_⟩)<;>conv=>whnf))
 all_goals first
  |contradiction
  |(exfalso;omega)
  |exact PSub.rfl
  |(refine PSub.lit_sb ?_;(first|(simp[nodeE,rangeB, *];done)|(simp_all[nodeE,rangeB];done)|((try simp only[nodeE,rangeB]);(repeat' split)<;>(try simp only[qh,qj,qd,Q1,qc,Q0,Q6])<;>first|rfl|omega|(simp_all;done)|(simp_all;omega))))
  |(refine PSub.sb ?_;(first|(simp[nodeE,rangeB, *];done)|(simp_all[nodeE,rangeB];done)|((try simp only[nodeE,rangeB]);(repeat' split)<;>(try simp only[qh,qj,qd,Q1,qc,Q0,Q6])<;>first|rfl|omega|(simp_all;done)|(simp_all;omega))))
  |(refine PSub.sb_lit ?_;(first|(simp[nodeE,rangeB, *];done)|(simp_all[nodeE,rangeB];done)|((try simp only[nodeE,rangeB]);(repeat' split)<;>(try simp only[qh,qj,qd,Q1,qc,Q0,Q6])<;>first|rfl|omega|(simp_all;done)|(simp_all;omega))))
  |(refine PSub.int ?_;(first|(simp[nodeE,rangeB, *];done)|(simp_all[nodeE,rangeB];done)|((try simp only[nodeE,rangeB]);(repeat' split)<;>(try simp only[qh,qj,qd,Q1,qc,Q0,Q6])<;>first|rfl|omega|(simp_all;done)|(simp_all;omega))))
  |skip
theorem Z8d(e:Ex)(he:sizeE e<=1073741824):AC Tryz.prog 22 [.pv (.agg (cEx e))] [] (.pv (vint (sizeE e))) []:=by
 have hsz:=Z26 e;have hkl:=Zud (l:=e.kids);have ih:∀k,k<e.kids.length->AC Tryz.prog 22 [.pv (.agg (cEx (e.kids.getD k default)))] [] (.pv (vint (sizeE (e.kids.getD k default)))) []:=fun k hk=>
  have:=Ex.kid_lt (Ex.kid_at hk)
  Z8d (e.kids.getD k default) (by have:=Zht (Ex.kid_at hk);omega)
 refine AC.ex ?_;refine AC.of_awp (T:=T) T_ok hm Tryz.call22 Tryz.func22 rfl rfl rfl ?_
 conv=>whnf
 refine loop_k (ι:=Nat) [1] [1] (fun k=>k<=e.kids.length∧True) (fun k=>e.kids.length-k) 0 (fun k=>[(3,.pv (vint (1+sizeL (e.kids.take k)))),(4,.pv (vint k))]) (fun _=>[]) [] ⟨qe _,trivial⟩ ?_ (fun k hk=>?_)
 ·exact QD
 obtain⟨hkn,-⟩:=hk
 conv=>whnf
 have hle:=Zhs (l:=e.kids) (k:=k)
 repeat(any_goals((first|refine⟨QT ?_,QF ?_⟩<;>intro h<;>(try simp only[Q0,Q1,Q2,Q3,Q4,Q5,Q6,Q7,Q8,reduceCtorEq]at h)|refine .inl ⟨_,ih k (by omega),?_⟩|refine QI ?_)<;>conv=>whnf))
 ·have h1:k<e.kids.length:=by omega
  have hst:=Zhv e.kids k h1;have hmem:=Zhs (l:=e.kids) (k:=k+1);refine .inl ⟨wrap64 (by omega),?_⟩
  conv=>whnf
  refine .inl ⟨wrap64 (by omega),?_⟩
  conv=>whnf
  refine⟨k+1,[],⟨by omega,trivial⟩,by first|omega|(dsimp only;omega),?_⟩;(repeat'(first|exact QC|refine And.intro ?_ ?_));refine PSub.int ?_;omega
 refine PSub.int ?_;rw[List.take_of_length_le (by omega)];omega
termination_by SizeOf.sizeOf e
theorem Zcc(e:Ex)(l c:Int)(hl:0<=l∧l<=25)(hc:0<=c∧c<=200):AC Tryz.prog 178 [.pv (.agg (cEx e)),.pv (vint l),.pv (vint c)] [] (.pv (.tup [vint (wlkE e l c).1,vint (wlkE e l c).2])) []:=by
 have ih:∀k l c,k<e.kids.length->0<=l∧l<=25->0<=c∧c<=200->AC Tryz.prog 178 [.pv (.agg (cEx (e.kids.getD k default))),.pv (vint l),.pv (vint c)] [] (.pv (.tup [vint (wlkE (e.kids.getD k default) l c).1,vint (wlkE (e.kids.getD k default) l c).2])) []:=fun k l c hk hl hc=>
  have:=Ex.kid_lt (Ex.kid_at hk)
  Zcc (e.kids.getD k default) l c hl hc
 have heq:=Zx8 e l c;refine AC.ex ?_;refine AC.of_awp (T:=T) T_ok hm Tryz.call178 Tryz.func178 rfl rfl rfl ?_
 conv=>whnf
 repeat(any_goals((first|refine⟨QT ?_,QF ?_⟩<;>intro h<;>(try simp only[Q0,Q1,Q2,Q3,Q4,Q5,Q6,Q7,Q8,reduceCtorEq]at h)|refine .inl ⟨_,(Zky e).ex',?_⟩|refine .inl ⟨wrap64 (by omega),?_⟩)<;>conv=>whnf))
 ·rw[heq,qK h];refine⟨?_,?_⟩<;>(conv=>whnf)
  all_goals exact PSub.rfl
 ·rename_i h1;rw[heq,qJ h1,qK h];refine⟨?_,?_⟩<;>(conv=>whnf)
  all_goals exact PSub.rfl
 ·rename_i h1 h2;rw[heq,qJ h1,qJ (by omega),qK h];refine⟨?_,?_⟩<;>(conv=>whnf)
  all_goals exact PSub.rfl
 rename_i h1 h2;rw[qJ h1,qJ (by omega),qJ (by simpa using h)]at heq;have hk8:=Z7e (e:=e) (by simpa using h);refine loop_k (ι:=Nat×Int) [1,3] [3] (fun x=>x.1<=e.kids.length∧(0<=x.2∧x.2<=200)∧wlkL (e.kids.drop x.1) (l+1) x.2=wlkE e l c) (fun x=>e.kids.length-x.1) (0,c+1) (fun x=>[(9,.pv (vint x.2)),(10,.pv (vint x.1))]) (fun _=>[]) [] ⟨qe _,⟨by omega,by omega⟩,by rw[heq];rfl⟩ ?_ (fun x hk=>?_)
 ·exact QD
 obtain⟨k,n⟩:=x;obtain⟨hkn,hn,hinv⟩:=hk;dsimp only at hkn hn hinv
 conv=>whnf
 repeat(any_goals((first|refine⟨QT ?_,QF ?_⟩<;>intro h<;>(try simp only[Q0,Q1,Q2,Q3,Q4,Q5,Q6,Q7,Q8,reduceCtorEq]at h)|refine .inl ⟨_,ih k (l+1) n (by omega) (by omega) (by omega),?_⟩|refine QI ?_|refine .inl ⟨wrap64 (by omega),?_⟩)<;>conv=>whnf))
 ·have hx:=Z48 (l:=e.kids) (k:=k) (by omega);rw[hx,wlkL,qK h]at hinv;rw[hinv];refine⟨?_,?_⟩<;>(conv=>whnf)
  all_goals exact PSub.rfl
 ·have hx:=Z48 (l:=e.kids) (k:=k) (by omega);rw[hx,wlkL,if_neg (by simpa using h)]at hinv;have hb:=wlkE_b (e.kids.getD k default) (l+1) n (by omega) (by omega);refine⟨(k+1,(wlkE (e.kids.getD k default) (l+1) n).1),[],⟨by dsimp only;omega,hb,hinv⟩,by first|omega|(dsimp only;omega),?_⟩
  all_goals exact QD
 rw[List.drop_of_length_le (by omega),wlkL]at hinv;rw[<-hinv];refine⟨?_,?_⟩<;>(conv=>whnf)
 all_goals exact PSub.rfl
termination_by SizeOf.sizeOf e
theorem Zpj(e:Ex):(wlkE e 1 0).2=exE e:=(Ziy e 1 0).1
theorem Z6f(e:Ex):AC Tryz.prog 112 [.pv (.agg (cEx e))] [] (.pv (vint (exE e))) []:=by
 refine AC.of_awp (T:=T) T_ok hm Tryz.call112 Tryz.func112 rfl rfl rfl ?_
 conv=>whnf
 repeat(any_goals((first|refine .inl ⟨_,Zcc e 1 0 (by omega) (by omega),?_⟩)<;>conv=>whnf))
 exact PSub.int (Zpj e)
theorem Znt{l:List Int}{k:Int}(h:l.length=2):allI l k=decide (l.getD 0 default=k∧l.getD 1 default=k):=by
 obtain⟨a,b,rfl⟩:∃a b,l = [a,b]:=by
  match l,h with
  | [a,b],_=>exact⟨a,b,rfl⟩
 simp[allI]
theorem Z8t{l:List Int}{k:Int}{q:Nat}(hq:q<l.length)(h:¬l.getD q default=k):allI l k=false:=by
 rw[<-Bool.not_eq_true];intro h2;simp only[allI,qz,Q0]at h2;exact h (h2 _ (by simp[List.getD,hq]))
theorem Z8u{l:List Int}{k:Int}(h:∀i,i<l.length->l.getD i default=k):allI l k=true:=by
 simp only[allI,qz,Q0];intro x hx;obtain⟨i,hi,rfl⟩:=qp hx;have:=h i hi;simpa[List.getD,hi]using this
set_option maxHeartbeats 1000000 in
theorem Zla(k:Int)(l:List Int)(h0:6<=k∧k<=14)(hl:kidsB k l.length=true):AC Tryz.prog 257 [.pv (vint k),.pv (roL 1 cint l)] [] (.pv (.tup [vint (opK k l).1,vint (opK k l).2])) []:=by
 have hlen:(k=6∧l.length=1)∨((k=7∨k=8)∧2<=l.length∧l.length<=8)∨(9<=k∧k<=13∧l.length=2)∨(k=14∧l.length=3):=by
  unfold kidsB at hl;(repeat' split at hl)<;>simp only[Q0,qc]at hl<;>omega
 refine AC.of_awp (T:=T) T_ok hm Tryz.call257 Tryz.func257 rfl rfl rfl ?_
 conv=>whnf
 by_cases hb:k=6∨k=7∨k=8
 ·have hop:opK k l=if allI l 1=true then(1,0)else(0,11):=by unfold opK;rw[qK hb]
  repeat(any_goals((first|refine⟨QT ?_,QF ?_⟩<;>intro h<;>(try simp only[Q0,Q1,Q2,Q3,Q4,Q5,Q6,Q7,Q8,reduceCtorEq]at h)|refine QI ?_)<;>conv=>whnf))
  all_goals(try(exfalso;omega))
  ·refine loop_k (ι:=Nat) [0,1] [] (fun q=>q<=l.length∧∀i,i<q->l.getD i default=1) (fun q=>l.length-q) 0 (fun q=>[(6,.pv (vint q))]) (fun _=>[]) [] ⟨qe _,fun i h=>absurd h (by omega)⟩ ?_ (fun q hk=>?_)
   ·exact QD
   obtain⟨hkn,hinv⟩:=hk
   conv=>whnf
   repeat(any_goals((first|refine⟨QT ?_,QF ?_⟩<;>intro h<;>(try simp only[Q0,Q1,Q2,Q3,Q4,Q5,Q6,Q7,Q8,reduceCtorEq]at h)|refine QI ?_|refine .inl ⟨wrap64 (by omega),?_⟩)<;>conv=>whnf))
   ·rw[hop,Z8t (by omega) h,qJ (by simp)];refine⟨?_,?_⟩<;>(conv=>whnf)
    all_goals exact PSub.rfl
   ·refine⟨q+1,[],⟨by omega,?_⟩,by first|omega|(dsimp only;omega),?_⟩;rotate_left
    ·exact QD
    intro j hj
    by_cases e:j=q
    ·subst e;first|exact h|simpa[-List.getD_eq_getElem?_getD]using h|simp_all[-List.getD_eq_getElem?_getD]
    exact hinv j (by omega)
   rw[hop,Z8u fun i hi=>hinv i (by omega),qK rfl];refine⟨?_,?_⟩<;>(conv=>whnf)
   all_goals exact PSub.rfl
  ·refine loop_k (ι:=Nat) [0,1] [] (fun q=>q<=l.length∧∀i,i<q->l.getD i default=1) (fun q=>l.length-q) 0 (fun q=>[(6,.pv (vint q))]) (fun _=>[]) [] ⟨qe _,fun i h=>absurd h (by omega)⟩ ?_ (fun q hk=>?_)
   ·exact QD
   obtain⟨hkn,hinv⟩:=hk
   conv=>whnf
   repeat(any_goals((first|refine⟨QT ?_,QF ?_⟩<;>intro h<;>(try simp only[Q0,Q1,Q2,Q3,Q4,Q5,Q6,Q7,Q8,reduceCtorEq]at h)|refine QI ?_|refine .inl ⟨wrap64 (by omega),?_⟩)<;>conv=>whnf))
   ·rw[hop,Z8t (by omega) h,qJ (by simp)];refine⟨?_,?_⟩<;>(conv=>whnf)
    all_goals exact PSub.rfl
   ·refine⟨q+1,[],⟨by omega,?_⟩,by first|omega|(dsimp only;omega),?_⟩;rotate_left
    ·exact QD
    intro j hj
    by_cases e:j=q
    ·subst e;first|exact h|simpa[-List.getD_eq_getElem?_getD]using h|simp_all[-List.getD_eq_getElem?_getD]
    exact hinv j (by omega)
   rw[hop,Z8u fun i hi=>hinv i (by omega),qK rfl];refine⟨?_,?_⟩<;>(conv=>whnf)
   all_goals exact PSub.rfl
  refine loop_k (ι:=Nat) [0,1] [] (fun q=>q<=l.length∧∀i,i<q->l.getD i default=1) (fun q=>l.length-q) 0 (fun q=>[(6,.pv (vint q))]) (fun _=>[]) [] ⟨qe _,fun i h=>absurd h (by omega)⟩ ?_ (fun q hk=>?_)
  ·exact QD
  obtain⟨hkn,hinv⟩:=hk
  conv=>whnf
  repeat(any_goals((first|refine⟨QT ?_,QF ?_⟩<;>intro h<;>(try simp only[Q0,Q1,Q2,Q3,Q4,Q5,Q6,Q7,Q8,reduceCtorEq]at h)|refine QI ?_|refine .inl ⟨wrap64 (by omega),?_⟩)<;>conv=>whnf))
  ·rw[hop,Z8t (by omega) h,qJ (by simp)];refine⟨?_,?_⟩<;>(conv=>whnf)
   all_goals exact PSub.rfl
  ·refine⟨q+1,[],⟨by omega,?_⟩,by first|omega|(dsimp only;omega),?_⟩;rotate_left
   ·exact QD
   intro j hj
   by_cases e:j=q
   ·subst e;first|exact h|simpa[-List.getD_eq_getElem?_getD]using h|simp_all[-List.getD_eq_getElem?_getD]
   exact hinv j (by omega)
  rw[hop,Z8u fun i hi=>hinv i (by omega),qK rfl];refine⟨?_,?_⟩<;>(conv=>whnf)
  all_goals exact PSub.rfl
 have ht:9<=k->k≠14->allI l 2=decide (l.getD 0 default=2∧l.getD 1 default=2):=fun h1 h2=>Znt (by omega)
 repeat(any_goals((first|refine⟨QT ?_,QF ?_⟩<;>intro h<;>(try simp only[Q0,Q1,Q2,Q3,Q4,Q5,Q6,Q7,Q8,reduceCtorEq]at h)|refine QI ?_|refine QK ?_)<;>conv=>whnf))
 all_goals(try(exfalso;omega))
 all_goals(try(refine qa ?_ ?_<;>(conv=>whnf)))
 all_goals first
  |contradiction
  |(exfalso;omega)
  |exact PSub.rfl
  |(refine PSub.lit_sb ?_;(first|(simp[opK, *];done)|(simp_all[opK];done)|((try simp only[opK]);(repeat' split)<;>(try simp only[qh,qj,qd,Q1,qc,Q0,Q6])<;>first|rfl|omega|(simp_all;done)|(simp_all;omega))))
  |(refine PSub.sb ?_;(first|(simp[opK, *];done)|(simp_all[opK];done)|((try simp only[opK]);(repeat' split)<;>(try simp only[qh,qj,qd,Q1,qc,Q0,Q6])<;>first|rfl|omega|(simp_all;done)|(simp_all;omega))))
  |(refine PSub.sb_lit ?_;(first|(simp[opK, *];done)|(simp_all[opK];done)|((try simp only[opK]);(repeat' split)<;>(try simp only[qh,qj,qd,Q1,qc,Q0,Q6])<;>first|rfl|omega|(simp_all;done)|(simp_all;omega))))
  |(refine PSub.int ?_;(first|(simp[opK, *];done)|(simp_all[opK];done)|((try simp only[opK]);(repeat' split)<;>(try simp only[qh,qj,qd,Q1,qc,Q0,Q6])<;>first|rfl|omega|(simp_all;done)|(simp_all;omega))))
  |skip
set_option maxHeartbeats 1000000 in
theorem Zce(s:Sco)(hs:smallS s)(e:Ex)(he:okE e):AC Tryz.prog 229 [.pv (.agg (cSco s)),.pv (.agg (cEx e))] [] (.pv (.tup [vint (kindE s e).1,vint (kindE s e).2])) []:=by
 obtain⟨hk1,hk2,hk3⟩:=(Zgg e).1 he;have ih:∀k,k<e.kids.length->AC Tryz.prog 229 [.pv (.agg (cSco s)),.pv (.agg (cEx (e.kids.getD k default)))] [] (.pv (.tup [vint (kindE s (e.kids.getD k default)).1,vint (kindE s (e.kids.getD k default)).2])) []:=fun k hk=>
  have:=Ex.kid_lt (Ex.kid_at hk)
  Zce s hs (e.kids.getD k default) (okL_at hk3 hk)
 have hlen:=Zfn hk2;have hk8:e.kids.length<=8:=by
  by_cases h:0<(e.kids.length:Int)
  ·have:=hlen h;omega
  omega
 refine AC.ex2 ?_;refine AC.of_awp (T:=T) T_ok hm Tryz.call229 Tryz.func229 rfl rfl rfl ?_
 conv=>whnf
 refine loop_k (ι:=Nat×List Int) [2,3] [2,3] (fun x=>x.1<=e.kids.length∧KTo s e.kids x.1 x.2) (fun x=>e.kids.length-x.1) (0,[]) (fun x=>[(6,.own 500),(7,.pv (vint x.1))]) (fun x=>[(500,rowL 1 cint x.2)]) [] ⟨qe _,KTo.zero s e.kids⟩ ?_ (fun x hk=>?_)
 ·exact QD
 obtain⟨k,acc⟩:=x;obtain⟨hkn,hinv⟩:=hk;dsimp only at hkn hinv;have hacc:=hinv.1;have hsm:smallL acc:=show acc.length<=1048576 from by omega
 conv=>whnf
 refine⟨fun h=>?_,fun h=>?_⟩<;>(try simp only[Q0,Q1,Q2,Q3,Q4,Q5,Q6,Q7,Q8,reduceCtorEq]at h)<;>(conv=>whnf)
 ·repeat(any_goals((first|refine⟨QT ?_,QF ?_⟩<;>intro h<;>(try simp only[Q0,Q1,Q2,Q3,Q4,Q5,Q6,Q7,Q8,reduceCtorEq]at h)|refine .inl ⟨_,ih k (by omega),?_⟩|refine QI ?_|refine QK ?_|refine .inl ⟨wrap64 (by omega),?_⟩)<;>conv=>whnf))
  ·have:=hinv.err (by omega) h;have hop:=Z5i (s:=s) (e:=e) (by omega);rw[this]at hop;rw[hop];refine⟨?_,?_⟩<;>(conv=>whnf)
   all_goals exact PSub.rfl
  refine⟨(k+1,acc ++ [(kindE s (e.kids.getD k default)).1]),[(500,35)],⟨by dsimp only;omega,hinv.next (by omega) h⟩,by dsimp only;omega,?_⟩;(repeat'(first|exact QC|refine And.intro ?_ ?_))
  ·dsimp only;rw[List.length_append];simp[hacc]
  refine Z05 (fun i hi=>by simp only[qK hi];exact PSubs.rfl) (by simp only[qJ (qM _),Nat.sub_self];exact PSubs.rfl)
 have hdn:=hinv.done (by omega);have hke:k=e.kids.length:=by omega
 by_cases hz:e.kids.length=0
 ·have hlf:=Z3j (s:=s) (e:=e) hz;have hk0:e.kind<=5∨e.kind=15:=by
   unfold kidsB at hk2;(repeat' split at hk2)<;>simp only[Q0,qc]at hk2<;>omega
  rw[hlf]
  repeat(any_goals((first|refine⟨QT ?_,QF ?_⟩<;>intro h<;>(try simp only[Q0,Q1,Q2,Q3,Q4,Q5,Q6,Q7,Q8,reduceCtorEq]at h)|refine .inl ⟨_,Z40 s.home e.key hs.1,?_⟩|refine .inl ⟨_,Z1a s.modes e.name hs.2.1,?_⟩)<;>conv=>whnf))
  all_goals(try(exfalso;omega))
  all_goals(try(refine qa ?_ ?_<;>(conv=>whnf)))
  all_goals first
   |contradiction
   |(exfalso;omega)
   |exact PSub.rfl
   |(refine PSub.lit_sb ?_;(first|(simp[leafK, *];done)|(simp_all[leafK];done)|((try simp only[leafK]);(repeat' split)<;>(try simp only[qh,qj,qd,Q1,qc,Q0,Q6])<;>first|rfl|omega|(simp_all;done)|(simp_all;omega))))
   |(refine PSub.sb ?_;(first|(simp[leafK, *];done)|(simp_all[leafK];done)|((try simp only[leafK]);(repeat' split)<;>(try simp only[qh,qj,qd,Q1,qc,Q0,Q6])<;>first|rfl|omega|(simp_all;done)|(simp_all;omega))))
   |(refine PSub.sb_lit ?_;(first|(simp[leafK, *];done)|(simp_all[leafK];done)|((try simp only[leafK]);(repeat' split)<;>(try simp only[qh,qj,qd,Q1,qc,Q0,Q6])<;>first|rfl|omega|(simp_all;done)|(simp_all;omega))))
   |(refine PSub.int ?_;(first|(simp[leafK, *];done)|(simp_all[leafK];done)|((try simp only[leafK]);(repeat' split)<;>(try simp only[qh,qj,qd,Q1,qc,Q0,Q6])<;>first|rfl|omega|(simp_all;done)|(simp_all;omega))))
   |skip
 have hop:=Z5i (s:=s) (e:=e) hz;rw[hdn]at hop;dsimp only at hop;have hl2:=hlen (by omega);rw[hop]
 repeat(any_goals((first|refine⟨QT ?_,QF ?_⟩<;>intro h<;>(try simp only[Q0,Q1,Q2,Q3,Q4,Q5,Q6,Q7,Q8,reduceCtorEq]at h)|refine .inl ⟨_,Zla e.kind acc (by omega) (by rw[hacc,hke];exact hk2),?_⟩|refine QI ?_)<;>conv=>whnf))
 all_goals(try(exfalso;omega))
 all_goals(try(refine qa ?_ ?_<;>(conv=>whnf)))
 all_goals exact PSub.rfl
termination_by SizeOf.sizeOf e
theorem Zl6(s:Sco)(e:Ex)(hs:smallS s):AC Tryz.prog 172 [.pv (.agg (cSco s)),.pv (.agg (cEx e))] [] (.pv (.tup [vint (exprK s e).1,vint (exprK s e).2])) []:=by
 refine AC.of_awp (T:=T) T_ok hm Tryz.call172 Tryz.func172 rfl rfl rfl ?_
 conv=>whnf
 repeat(any_goals((first|refine⟨QT ?_,QF ?_⟩<;>intro h<;>(try simp only[Q0,Q1,Q2,Q3,Q4,Q5,Q6,Q7,Q8,reduceCtorEq]at h)|refine .inl ⟨_,Z6f e,?_⟩)<;>conv=>whnf))
 ·rw[exprK,qK h];refine⟨?_,?_⟩<;>(conv=>whnf)
  all_goals exact PSub.rfl
 rw[exprK,qJ (by simpa using h)]
 repeat(any_goals((first|refine .inl ⟨_,Zce s hs e (exE_ok h),?_⟩)<;>conv=>whnf))
 refine⟨?_,?_⟩<;>(conv=>whnf)
 all_goals exact PSub.rfl
theorem Z8f(s:Sco)(e:Ex)(k:Int)(hs:smallS s):AC Tryz.prog 107 [.pv (.agg (cSco s)),.pv (.agg (cEx e)),.pv (vint k)] [] (.pv (vint (wantK s e k))) []:=by
 refine AC.of_awp (T:=T) T_ok hm Tryz.call107 Tryz.func107 rfl rfl rfl ?_
 conv=>whnf
 repeat(any_goals((first|refine⟨QT ?_,QF ?_⟩<;>intro h<;>(try simp only[Q0,Q1,Q2,Q3,Q4,Q5,Q6,Q7,Q8,reduceCtorEq]at h)|refine .inl ⟨_,Zl6 s e hs,?_⟩)<;>conv=>whnf))
 all_goals first
  |contradiction
  |(exfalso;omega)
  |exact PSub.rfl
  |(refine PSub.lit_sb ?_;(first|(simp[wantK, *];done)|(simp_all[wantK];done)|((try simp only[wantK]);(repeat' split)<;>(try simp only[qh,qj,qd,Q1,qc,Q0,Q6])<;>first|rfl|omega|(simp_all;done)|(simp_all;omega))))
  |(refine PSub.sb ?_;(first|(simp[wantK, *];done)|(simp_all[wantK];done)|((try simp only[wantK]);(repeat' split)<;>(try simp only[qh,qj,qd,Q1,qc,Q0,Q6])<;>first|rfl|omega|(simp_all;done)|(simp_all;omega))))
  |(refine PSub.sb_lit ?_;(first|(simp[wantK, *];done)|(simp_all[wantK];done)|((try simp only[wantK]);(repeat' split)<;>(try simp only[qh,qj,qd,Q1,qc,Q0,Q6])<;>first|rfl|omega|(simp_all;done)|(simp_all;omega))))
  |(refine PSub.int ?_;(first|(simp[wantK, *];done)|(simp_all[wantK];done)|((try simp only[wantK]);(repeat' split)<;>(try simp only[qh,qj,qd,Q1,qc,Q0,Q6])<;>first|rfl|omega|(simp_all;done)|(simp_all;omega))))
  |skip
open Go.RowKit
section
variable {H:Type} (enc:TypeId×Value->H) (P:Program) (w:World) (bulk:DataW H->Nat) (B:Nat)
end
section
variable {H:Type} {enc:TypeId×Value->H} {P:Program} {w:World} {bulk:DataW H->Nat} {B:Nat}
theorem Opens.toU{t:TypeId}{α:Type}{cs:α->List PV}{good:α->Prop}{N:Nat}(h:Opens enc P w bulk B t cs good):OpensU enc P w bulk B N t cs good (fun _=>0):=by
 intro sp fuel vs x _ hx hb;obtain⟨a,h1,h2⟩:=h sp fuel vs x hx hb;exact⟨a,h1,qe _,h2⟩
end
open Go.Proofs Go.RowKit
section
variable {H:Type} {enc:TypeId×Value->H} {w:World} {bulk:DataW H->Nat}
theorem Zhu:∀l:List Ex,(l.map sizeE).sum=sizeL l
 | []=>rfl
 |e::l=>by rw[List.map_cons,List.sum_cons,sizeL,Zhu l]
theorem Zs9(hB:BulkOk bulk)(hS:BulkSum bulk):∀N,OpensU enc Tryz.prog w bulk BB N 61 cEx (fun _=>True) sizeE:=by
 have step:∀N,OpensU enc Tryz.prog w bulk BB N 61 cEx (fun _=>True) sizeE->OpensU enc Tryz.prog w bulk BB (N+1+1) 61 cEx (fun _=>True) sizeE:=by
  intro N ih;have hk:=OpensU.slice hB hS (t:=59) Tryz.underlying59 (size:=11) (by kernel_rfl) (by decide) ih;refine(OpensU.struct hB hS Tryz.underlying61 (by kernel_rfl) (.cons (size:=1) rfl (by kernel_rfl) op_int.toU (.cons (size:=1) rfl (by kernel_rfl) op_int.toU (.cons (size:=1) rfl (by kernel_rfl) op_int.toU (.cons (size:=1) rfl (by kernel_rfl) (Z0k hB).toU
   (.cons (size:=3) rfl (by kernel_rfl) (Zae hB).toU (.cons (size:=3) rfl (by kernel_rfl) (op_Key hB).toU (.cons (size:=1) rfl (by kernel_rfl) hk .nil)))))))).imp (fun x=>.mk x.1 x.2.1 x.2.2.1 x.2.2.2.1 x.2.2.2.2.1 x.2.2.2.2.2.1 x.2.2.2.2.2.2.1) (fun a _ vs hr=>?_) (fun _ _=>trivial) (fun a=>?_)
  ·exact Reads.sub hr ⟨.rfl,.rfl,.rfl,.rfl,.rfl,.rfl,.rfl,.rfl,.rfl,.rfl,PSub.kids',trivial⟩
  ·rw[Z26,<-Zhu];dsimp only[Ex.kids];omega
 intro N
 induction N using Nat.strongRecOn with
 |_ N ih=>
  match N with
  |0=>
   intro sp fuel vs x hf hx hb;exact step 0 (fun sp fuel vs x hf hx hb=>by
    obtain rfl:fuel=0:=by omega
    simp[DataW.trod]at hx) sp fuel vs x (by omega) hx hb
  |1=>
   intro sp fuel vs x hf hx hb;exact step 0 (ih 0 (by omega)) sp fuel vs x (by omega) hx hb
  |N+2=>exact step N (ih N (by omega))
theorem Zgl(hB:BulkOk bulk)(hS:BulkSum bulk):Opens enc Tryz.prog w bulk BB 61 cEx (fun e=>sizeE e<=1048576):=
 (OpensU.all (Zs9 hB hS)).imp id (fun _=>rfl) (fun _ h=>h.2)
theorem Zsg(hB:BulkOk bulk):Opens enc Tryz.prog w bulk BB 28 cSco smallS:=
 (Opens.struct hB Tryz.underlying28 (by kernel_rfl) (.cons (size:=2) rfl (by kernel_rfl) (Zsb hB) (.cons (size:=1) rfl (by kernel_rfl) (Z2k hB) (.cons (size:=1) rfl (by kernel_rfl) (Z2k hB) .nil)))).imp (fun x=>⟨x.1,x.2.1,x.2.2.1⟩) (fun _=>rfl) (fun _ h=>⟨h.1,h.2.1,h.2.2.1⟩)
theorem Zs7(hB:BulkOk bulk):Opens enc Tryz.prog w bulk BB 109 (fun x:Evt=>[vint x.dev,vstr x.cluster,vstr x.name]) (fun _=>True):=
 (Opens.struct hB Tryz.underlying109 (by kernel_rfl) (.cons (size:=1) rfl (by kernel_rfl) op_int (.cons (size:=1) rfl (by kernel_rfl) (Z0k hB) (.cons (size:=1) rfl (by kernel_rfl) (Z0k hB) .nil)))).imp (fun x=>⟨x.1,x.2.1,x.2.2.1⟩) (fun _=>rfl) (fun _ _=>trivial)
theorem Zsj(hB:BulkOk bulk):Opens enc Tryz.prog w bulk BB 120 cTrg (fun _=>True):=
 (Opens.struct hB Tryz.underlying120 (by kernel_rfl) (.cons (size:=1) rfl (by kernel_rfl) op_int (.cons (size:=3) rfl (by kernel_rfl) (op_Key hB) (.cons (size:=3) rfl (by kernel_rfl) (Zs7 hB) (.cons (size:=1) rfl (by kernel_rfl) (Z0k hB) (.cons (size:=1) rfl (by kernel_rfl) op_int (.cons (size:=1) rfl (by kernel_rfl) op_int .nil))))))).imp
  (fun x=>⟨x.1,x.2.1,x.2.2.1,x.2.2.2.1,x.2.2.2.2.1,x.2.2.2.2.2.1⟩) (fun _=>rfl) (fun _ _=>trivial)
theorem Zsy(hB:BulkOk bulk):Opens enc Tryz.prog w bulk BB 54 (fun l:List Trg=>[roL 10 cTrg l]) smallL:=
 (Opens.slice hB Tryz.underlying54 (by kernel_rfl) (by decide) (Zsj hB)).imp id (fun _=>rfl) (fun _ h=>h.1)
theorem Zsi(hB:BulkOk bulk)(hS:BulkSum bulk):Opens enc Tryz.prog w bulk BB 79 cStp (fun x=>sizeE x.expr<=1048576):=
 (Opens.struct hB Tryz.underlying79 (by kernel_rfl) (.cons (size:=1) rfl (by kernel_rfl) op_int (.cons (size:=3) rfl (by kernel_rfl) (op_Key hB) (.cons (size:=1) rfl (by kernel_rfl) (Z0k hB) (.cons (size:=11) rfl (by kernel_rfl) (Zgl hB hS) .nil))))).imp (fun x=>⟨x.1,x.2.1,x.2.2.1,x.2.2.2.1⟩) (fun _=>rfl) (fun _ h=>h.2.2.2.1)
theorem Zsx(hB:BulkOk bulk)(hS:BulkSum bulk):Opens enc Tryz.prog w bulk BB 62 (fun l:List Stp=>[roL 16 cStp l]) (fun l=>smallL l∧∀i,i<l.length->sizeE (l.getD i default).expr<=1048576):=
 (Opens.slice hB Tryz.underlying62 (by kernel_rfl) (by decide) (Zsi hB hS)).imp id (fun _=>rfl) (fun _ h=>h)
theorem Zse(hB:BulkOk bulk)(hS:BulkSum bulk):Opens enc Tryz.prog w bulk BB 64 cRul goodRulO:=
 (Opens.struct hB Tryz.underlying64 (by kernel_rfl) (.cons (size:=1) rfl (by kernel_rfl) (Z0k hB) (.cons (size:=1) rfl (by kernel_rfl) op_int (.cons (size:=1) rfl (by kernel_rfl) (Zsy hB) (.cons (size:=11) rfl (by kernel_rfl) (Zgl hB hS) (.cons (size:=1) rfl (by kernel_rfl) (Zsx hB hS) .nil)))))).imp
  (fun x=>⟨x.1,x.2.1,x.2.2.1,x.2.2.2.1,x.2.2.2.2.1⟩) (fun _=>rfl) (fun _ h=>⟨qF h.2.2.2.1 (by decide),fun i hi=>qF (h.2.2.2.2.1.2 i hi) (by decide)⟩)
theorem Zsu(hB:BulkOk bulk)(hS:BulkSum bulk):Opens enc Tryz.prog w bulk BB 30 (fun l:List Rul=>[roL 15 cRul l]) (fun l=>smallL l∧∀i,i<l.length->goodRulO (l.getD i default)):=
 (Opens.slice hB Tryz.underlying30 (by kernel_rfl) (by decide) (Zse hB hS)).imp id (fun _=>rfl) (fun _ h=>h)
end
end Go.Abs
namespace Go.Proofs.YtipbekclhmbclaaGreatDoor
open Go.ChangeShapes Go.WideShapes Go.ChangeAt Go.RowKit Go.Abs
theorem bulkSum{H:Type}:BulkSum (Rows.uptoBulk (H:=H)):=by
 have all:∀l:List (DataW H),Rows.uptoBulkAll l=(l.map Rows.uptoBulk).sum:=by
  intro l
  induction l with
  |nil=>rfl
  |cons x r ih=>simp only[Rows.uptoBulkAll,List.map_cons,List.sum_cons,ih]
 refine⟨fun e s=>?_,fun l=>?_⟩
 ·simp only[Rows.uptoBulk,all];omega
 simp only[Rows.uptoBulk,all];omega
end Go.Proofs.YtipbekclhmbclaaGreatDoor
namespace Go.Abs
theorem Z58:∀ {l k:List Key},Asc l->Asc k->(∀x,x∈l↔x∈k)->l=k
 | [],[],_,_,_=>rfl
 | [],b::k,_,_,h=>by have:=(h b).2 (by simp);simp at this
 |a::l,[],_,_,h=>by have:=(h a).1 (by simp);simp at this
 |a::l,b::k,hl,hk,h=>by
  obtain⟨hl1,hl2⟩:=qQ.1 hl;obtain⟨hk1,hk2⟩:=qQ.1 hk;have e:a=b:=by
   have h1:=(h a).1 (by simp);have h2:=(h b).2 (by simp);rcases qk.1 h1 with e|h1
   ·exact e
   rcases qk.1 h2 with e|h2
   ·exact e.symm
   have:=Za2 (hl1 b h2);rw[hk1 a h1]at this;cases this
  subst e;congr 1;refine Z58 hl2 hk2 fun x=>⟨fun hx=>?_,fun hx=>?_⟩
  ·rcases qk.1 ((h x).1 (by simp[hx]))with e|h1
   ·subst e;have:=hl1 x hx;rw[Z15]at this;cases this
   exact h1
  rcases qk.1 ((h x).2 (by simp[hx]))with e|h1
  ·subst e;have:=hk1 x hx;rw[Z15]at this;cases this
  exact h1
theorem Zpw{l acc:List Key}{x:Key}:x∈l.foldl putK acc↔x∈acc∨x∈l:=by
 induction l generalizing acc with
 |nil=>simp
 |cons y r ih=>
  simp only[List.foldl_cons,ih,mem_putK,qk];constructor
  ·rintro ((h|h)|h)
   ·exact .inr (.inl h)
   ·exact .inl h
   exact .inr (.inr h)
  rintro (h|h|h)
  ·exact .inl (.inr h)
  ·exact .inl (.inl h)
  exact .inr h
theorem Z2j{l:List Key}{x:Key}:x∈sortK l↔x∈l:=by unfold sortK;rw[Zpw];simp
theorem Z61{l k:List Key}(h:∀x,x∈l↔x∈k):sortK l=sortK k:=Z58 (Z2c l) (Z2c k) fun x=>by rw[Z2j,Z2j,h]
open Go.Proofs
set_option maxRecDepth 10000
theorem Zc7(x:Eff)(a:Attr)(p v:Val)(ha:smallA a)(hv:smallN v.n)(hx:x.kind=3->smallN x.n):AC Tryz.prog 185 [.pv (.agg (cEff x)),.pv (.agg (cAttr a)),.pv (.agg (cVal p)),.pv (.agg (cVal v))] [] (.pv (.agg (cVal (doneV x a p v)))) []:=by
 have⟨h1,h2⟩:=hv;have h3:x.kind=3->-4611686018427387904<=x.n∧x.n<=4611686018427387903:=hx;refine AC.of_awp (T:=T) T_ok hm Tryz.call185 Tryz.func185 rfl rfl rfl ?_
 conv=>whnf
 repeat(any_goals((first|refine⟨QT ?_,QF ?_⟩<;>intro h<;>(try simp only[Q0,Q1,Q2,Q3,Q4,Q5,Q6,Q7,Q8,reduceCtorEq]at h)|refine .inl ⟨_,Z35 a ⟨v.kind,x.n,v.s⟩ ha,?_⟩|refine .inl ⟨_,Z35 a p ha,?_⟩|refine .inl ⟨_,Z35 a ⟨v.kind,v.n+x.n,v.s⟩ ha,?_⟩|refine .inl ⟨_,Z35 a ⟨v.kind,1-v.n,v.s⟩ ha,?_⟩|refine .inl ⟨_,Z35 a v ha,?_⟩|refine .inl ⟨wrap64 (by omega),?_⟩)<;>conv=>whnf))
 all_goals first
  |(rw[doneV,qK (by assumption)];exact .rfl)
  |(rw[doneV,qJ (by assumption),qK (by assumption)];exact .rfl)
  |(rw[doneV,qJ (by assumption),qJ (by assumption),qK (by assumption)];exact .rfl)
  |(rw[doneV,qJ (by assumption),qJ (by assumption),qJ (by assumption),qK (by assumption)];exact .rfl)
  |(rw[doneV,qJ (by assumption),qJ (by assumption),qJ (by assumption),qJ (by assumption)];exact .rfl)
theorem Zgp{l:List Attr}{s:ByteArray}(h:attrAt l s<l.length):placeI l s=(attrAt l s:Int):=by rw[placeI,qK h]
theorem Ziq(a:Val):(decide (a.kind=0)&&(decide (a.n=0)&&(decide (a.s=⟨#[]⟩)&&true)))=decide (a=noVal):=val_eq a noVal
set_option maxHeartbeats 4000000 in
theorem Zc4(c:Clu)(s:ByteArray)(p:Val)(vals:List Val)(hc:smallK c)(hl:smallL vals):AC Tryz.prog 118 [.pv (.agg (cClu c)),.pv (vstr s),.pv (.agg (cVal p)),.pv (roL 3 cVal vals)] [] (.pv (.tup [roL 3 cVal (applyL c s p vals),vint (applyE c s p vals)])) []:=by
 have hl2:vals.length<=1048576:=hl;have hds:=Z9a hc (s:=s);have hde:(cmdOf c.commands s).effects.length<=1048576:=hds.2;refine AC.of_awp (T:=T) T_ok hm Tryz.call118 Tryz.func118 rfl rfl rfl ?_
 conv=>whnf
 refine .inl ⟨_,Zc6 c hc,?_⟩
 conv=>whnf
 refine⟨fun h=>?_,fun h=>?_⟩<;>(try simp only[Q0,Q1,Q2,Q3,Q4,Q5,Q6,Q7,Q8,reduceCtorEq]at h)<;>(conv=>whnf)
 ·have e:applyE c s p vals=checkE c:=by rw[applyE,qK h]
  rw[applyL,e];refine⟨?_,?_⟩<;>(conv=>whnf)
  ·exact PSub.nilL (by simp[*])
  exact .rfl
 have h0:=h;refine .inl ⟨_,Z8a c s hc,?_⟩
 conv=>whnf
 refine⟨fun h=>?_,fun h=>?_⟩<;>(try simp only[Q0,Q1,Q2,Q3,Q4,Q5,Q6,Q7,Q8,reduceCtorEq]at h)<;>(conv=>whnf)
 ·have e:applyE c s p vals=8:=by rw[applyE,qJ (by simpa using h0),qK h]
  rw[applyL,e];refine⟨?_,?_⟩<;>(conv=>whnf)
  ·exact PSub.nilL (by simp[*])
  exact .rfl
 have h1:=h;clear h;have hk:=Z5b h0;have heff:=Z6l hk h1;refine⟨fun h=>?_,fun h=>?_⟩<;>(try simp only[Q0,Q1,Q2,Q3,Q4,Q5,Q6,Q7,Q8,reduceCtorEq]at h)<;>(conv=>whnf)
 ·refine⟨fun h=>?_,fun h=>?_⟩<;>(try simp only[Q0,Q1,Q2,Q3,Q4,Q5,Q6,Q7,Q8,reduceCtorEq]at h)<;>(conv=>whnf)
  ·rename_i hpk;rw[Ziq]at h;have ha:acceptsE (cmdOf c.commands s) p=11:=by rw[acceptsE,qJ (by simpa using hpk),qK (by simpa using h)]
   have e:applyE c s p vals=11:=by rw[applyE,qJ (by simpa using h0),qJ (by simpa using h1),ha,qK (by decide)]
   rw[applyL,e];refine⟨?_,?_⟩<;>(conv=>whnf)
   ·exact PSub.nilL (by simp[*])
   exact .rfl
  rename_i hpk;rw[Ziq]at h;have h2:acceptsE (cmdOf c.commands s) p=0:=by rw[acceptsE,qJ (by simpa using hpk),qJ (by simpa using h)]
  refine⟨fun h=>?_,fun h=>?_⟩<;>(try simp only[Q0,Q1,Q2,Q3,Q4,Q5,Q6,Q7,Q8,reduceCtorEq]at h)<;>(conv=>whnf)
  ·have e:applyE c s p vals=1:=by rw[applyE,qJ (by simpa using h0),qJ (by simpa using h1),qJ (by simpa using h2),qK (by omega)]
   rw[applyL,e];refine⟨?_,?_⟩<;>(conv=>whnf)
   ·exact PSub.nilL (by simp[*])
   exact .rfl
  have h3:vals.length=c.attrs.length:=by omega
  clear h;refine qa (by omega) ?_
  conv=>whnf
  refine loop_k (ι:=Nat) [3,4,6,11,54] [4,6,11] (fun k=>k<=vals.length∧∀j,j<k->badV c vals j=false) (fun k=>vals.length-k) 0 (fun k=>[(13,.own 500),(55,.pv (vint k))]) (fun k=>[(500,rowL 3 cVal (vals.take k))]) [(500,52)] ⟨qe _,fun j h=>absurd h (by omega)⟩ ?_ (fun k hk=>?_)
  ·(repeat'(first|exact QC|refine qa ?_ ?_))
   all_goals try(intro i hi;exact absurd hi (by simp))
  obtain⟨hkn,hinv⟩:=hk
  conv=>whnf
  refine⟨fun h=>?_,fun h=>?_⟩<;>(try simp only[Q0,Q1,Q2,Q3,Q4,Q5,Q6,Q7,Q8,reduceCtorEq]at h)<;>(conv=>whnf)
  ·have hlt:(vals.take k).length=k:=by rw[qq];omega
   repeat(any_goals((first|refine⟨QT ?_,QF ?_⟩<;>intro h<;>(try simp only[Q0,Q1,Q2,Q3,Q4,Q5,Q6,Q7,Q8,reduceCtorEq]at h)|refine .inl ⟨_,Z34 (c.attrs.getD k default) (vals.getD k default) (hc.2.1 k),?_⟩|refine QI ?_|refine QK ?_|refine .inl ⟨wrap64 (by omega),?_⟩)<;>conv=>whnf))
   ·have e:applyE c s p vals=1:=by rw[applyE,qJ (by simpa using h0),qJ (by simpa using h1),qJ (by simpa using h2),qJ (by omega),qK (Z0a (k:=k) (by omega) (by simpa[badV,-List.getD_eq_getElem?_getD]using h))]
    rw[applyL,e];refine⟨?_,?_⟩<;>(conv=>whnf)
    ·exact PSub.nilL (by simp[*])
    exact .rfl
   refine⟨k+1,[(500,75)],⟨by omega,?_⟩,by omega,?_⟩
   ·intro j hj
    by_cases e:j=k
    ·subst e;simpa[badV,-List.getD_eq_getElem?_getD]using h
    exact hinv j (by omega)
   rw[Z09 (by omega)];(repeat'(first|exact QC|refine qa ?_ ?_))
   ·simp;try omega
   refine Z05 (fun i hi=>by simp only[qK hi];exact PSubs.rfl) (by simp only[qJ (qM _),Nat.sub_self];exact PSubs.rfl)
  have hnb:anyN vals.length (badV c vals)=false:=Z0d fun j hj=>hinv j (by omega)
  have hfa:fitsAll c vals:=⟨h3,fun i hi=>by have:=hinv i (by omega);simpa[badV,-List.getD_eq_getElem?_getD]using this⟩;have e:applyE c s p vals=0:=by rw[applyE,qJ (by simpa using h0),qJ (by simpa using h1),qJ (by simpa using h2),qJ (by omega),hnb,qJ (by decide)]
  have eL:applyL c s p vals=applyTo c (cmdOf c.commands s) p vals (cmdOf c.commands s).effects.length:=by rw[applyL,qK e]
  rw[e,eL];have hfit:=Z42 heff h2 hfa;have htk:vals.take k=vals:=List.take_of_length_le (by omega);clear h hinv hkn hnb e eL;refine loop_k (ι:=Nat) [4,6,11,13,79] [4,6,11] (fun k2=>k2<=(cmdOf c.commands s).effects.length∧True) (fun k2=>(cmdOf c.commands s).effects.length-k2) 0 (fun k2=>[(80,.pv (vint k2))]) (fun k2=>[(500,rowL 3 cVal (applyTo c (cmdOf c.commands s) p vals k2))]) [] ⟨qe _,trivial⟩ ?_ (fun k2 hk=>?_)
  ·(repeat'(first|exact QC|refine qa ?_ ?_));all_goals((first|(rw[htk];rfl)|(intro i hi;rw[htk];exact PSubs.rfl)))
  obtain⟨hkn,hinv⟩:=hk
  conv=>whnf
  refine⟨fun h=>?_,fun h=>?_⟩<;>(try simp only[Q0,Q1,Q2,Q3,Q4,Q5,Q6,Q7,Q8,reduceCtorEq]at h)<;>(conv=>whnf)
  ·have hx:=heff k2 (by omega);obtain⟨g1,g2,g3,g4⟩:=Z6q hx;have hf:=hfit k2 (by omega);have hpl:=Zgp g2;have hl3:=hf.1
   repeat(any_goals((first|refine QI ?_|refine QK ?_)<;>conv=>whnf))
   refine .inl ⟨_,Z6d c ((cmdOf c.commands s).effects.getD k2 default).attr hc,?_⟩;rw[hpl]
   conv=>whnf
   have hok:=Z8r g1 g3 h2 (hf.2 _ g2) g4
   repeat(any_goals((first|refine .inl ⟨_,Zc7 ((cmdOf c.commands s).effects.getD k2 default) (c.attrs.getD (attrAt c.attrs ((cmdOf c.commands s).effects.getD k2 default).attr) default) p ((applyTo c (cmdOf c.commands s) p vals k2).getD (attrAt c.attrs ((cmdOf c.commands s).effects.getD k2 default).attr) default) (hc.2.1 _) (Z9j (hf.2 _ g2)) (fun hk3=>Zb2 (g4 hk3)),?_⟩|refine QI ?_|refine QK ?_|refine .inl ⟨wrap64 (by omega),?_⟩)<;>conv=>whnf))
   refine⟨k2+1,[],⟨by omega,trivial⟩,by omega,?_⟩;rw[applyTo,stepL,<-hok.2];(repeat'(first|exact QC|refine qa ?_ ?_))
   ·simp
   refine Zas (i:=attrAt c.attrs ((cmdOf c.commands s).effects.getD k2 default).attr) (F:=updAt _ _ _ _) (fun i hi e=>?_) (fun hi=>?_)
   ·simp only[Q4];rw[Z11 e];exact PSubs.rfl
   simp only[Q4];rw[Z19];exact PSubs.rfl
  have ek:k2=(cmdOf c.commands s).effects.length:=by omega
  subst ek
  skip
  refine⟨?_,?_⟩<;>(conv=>whnf)
  ·exact .rfl
  exact .rfl
 have hpk:=h;refine .inl ⟨_,Z34 (cmdOf c.commands s).param p hds.1,?_⟩
 conv=>whnf
 refine⟨fun h=>?_,fun h=>?_⟩<;>(try simp only[Q0,Q1,Q2,Q3,Q4,Q5,Q6,Q7,Q8,reduceCtorEq]at h)<;>(conv=>whnf)
 ·have ha:acceptsE (cmdOf c.commands s) p=fitsE (cmdOf c.commands s).param p:=by rw[acceptsE,qK hpk]
  have e:applyE c s p vals=fitsE (cmdOf c.commands s).param p:=by rw[applyE,qJ (by simpa using h0),qJ (by simpa using h1),ha,qK h]
  rw[applyL,e];refine⟨?_,?_⟩<;>(conv=>whnf)
  ·exact PSub.nilL (by simp[*])
  exact .rfl
 have h2:acceptsE (cmdOf c.commands s) p=0:=by rw[acceptsE,qK hpk,h]
 refine⟨fun h=>?_,fun h=>?_⟩<;>(try simp only[Q0,Q1,Q2,Q3,Q4,Q5,Q6,Q7,Q8,reduceCtorEq]at h)<;>(conv=>whnf)
 ·have e:applyE c s p vals=1:=by rw[applyE,qJ (by simpa using h0),qJ (by simpa using h1),qJ (by simpa using h2),qK (by omega)]
  rw[applyL,e];refine⟨?_,?_⟩<;>(conv=>whnf)
  ·exact PSub.nilL (by simp[*])
  exact .rfl
 have h3:vals.length=c.attrs.length:=by omega
 clear h;refine qa (by omega) ?_
 conv=>whnf
 refine loop_k (ι:=Nat) [3,4,6,11,54] [4,6,11] (fun k=>k<=vals.length∧∀j,j<k->badV c vals j=false) (fun k=>vals.length-k) 0 (fun k=>[(13,.own 500),(55,.pv (vint k))]) (fun k=>[(500,rowL 3 cVal (vals.take k))]) [(500,52)] ⟨qe _,fun j h=>absurd h (by omega)⟩ ?_ (fun k hk=>?_)
 ·(repeat'(first|exact QC|refine qa ?_ ?_))
  all_goals try(intro i hi;exact absurd hi (by simp))
 obtain⟨hkn,hinv⟩:=hk
 conv=>whnf
 refine⟨fun h=>?_,fun h=>?_⟩<;>(try simp only[Q0,Q1,Q2,Q3,Q4,Q5,Q6,Q7,Q8,reduceCtorEq]at h)<;>(conv=>whnf)
 ·have hlt:(vals.take k).length=k:=by rw[qq];omega
  repeat(any_goals((first|refine⟨QT ?_,QF ?_⟩<;>intro h<;>(try simp only[Q0,Q1,Q2,Q3,Q4,Q5,Q6,Q7,Q8,reduceCtorEq]at h)|refine .inl ⟨_,Z34 (c.attrs.getD k default) (vals.getD k default) (hc.2.1 k),?_⟩|refine QI ?_|refine QK ?_|refine .inl ⟨wrap64 (by omega),?_⟩)<;>conv=>whnf))
  ·have e:applyE c s p vals=1:=by rw[applyE,qJ (by simpa using h0),qJ (by simpa using h1),qJ (by simpa using h2),qJ (by omega),qK (Z0a (k:=k) (by omega) (by simpa[badV,-List.getD_eq_getElem?_getD]using h))]
   rw[applyL,e];refine⟨?_,?_⟩<;>(conv=>whnf)
   ·exact PSub.nilL (by simp[*])
   exact .rfl
  refine⟨k+1,[(500,75)],⟨by omega,?_⟩,by omega,?_⟩
  ·intro j hj
   by_cases e:j=k
   ·subst e;simpa[badV,-List.getD_eq_getElem?_getD]using h
   exact hinv j (by omega)
  rw[Z09 (by omega)];(repeat'(first|exact QC|refine qa ?_ ?_))
  ·simp;try omega
  refine Z05 (fun i hi=>by simp only[qK hi];exact PSubs.rfl) (by simp only[qJ (qM _),Nat.sub_self];exact PSubs.rfl)
 have hnb:anyN vals.length (badV c vals)=false:=Z0d fun j hj=>hinv j (by omega)
 have hfa:fitsAll c vals:=⟨h3,fun i hi=>by have:=hinv i (by omega);simpa[badV,-List.getD_eq_getElem?_getD]using this⟩;have e:applyE c s p vals=0:=by rw[applyE,qJ (by simpa using h0),qJ (by simpa using h1),qJ (by simpa using h2),qJ (by omega),hnb,qJ (by decide)]
 have eL:applyL c s p vals=applyTo c (cmdOf c.commands s) p vals (cmdOf c.commands s).effects.length:=by rw[applyL,qK e]
 rw[e,eL];have hfit:=Z42 heff h2 hfa;have htk:vals.take k=vals:=List.take_of_length_le (by omega);clear h hinv hkn hnb e eL;refine loop_k (ι:=Nat) [4,6,11,13,79] [4,6,11] (fun k2=>k2<=(cmdOf c.commands s).effects.length∧True) (fun k2=>(cmdOf c.commands s).effects.length-k2) 0 (fun k2=>[(80,.pv (vint k2))]) (fun k2=>[(500,rowL 3 cVal (applyTo c (cmdOf c.commands s) p vals k2))]) [] ⟨qe _,trivial⟩ ?_ (fun k2 hk=>?_)
 ·(repeat'(first|exact QC|refine qa ?_ ?_));all_goals((first|(rw[htk];rfl)|(intro i hi;rw[htk];exact PSubs.rfl)))
 obtain⟨hkn,hinv⟩:=hk
 conv=>whnf
 refine⟨fun h=>?_,fun h=>?_⟩<;>(try simp only[Q0,Q1,Q2,Q3,Q4,Q5,Q6,Q7,Q8,reduceCtorEq]at h)<;>(conv=>whnf)
 ·have hx:=heff k2 (by omega);obtain⟨g1,g2,g3,g4⟩:=Z6q hx;have hf:=hfit k2 (by omega);have hpl:=Zgp g2;have hl3:=hf.1
  repeat(any_goals((first|refine QI ?_|refine QK ?_)<;>conv=>whnf))
  refine .inl ⟨_,Z6d c ((cmdOf c.commands s).effects.getD k2 default).attr hc,?_⟩;rw[hpl]
  conv=>whnf
  have hok:=Z8r g1 g3 h2 (hf.2 _ g2) g4
  repeat(any_goals((first|refine .inl ⟨_,Zc7 ((cmdOf c.commands s).effects.getD k2 default) (c.attrs.getD (attrAt c.attrs ((cmdOf c.commands s).effects.getD k2 default).attr) default) p ((applyTo c (cmdOf c.commands s) p vals k2).getD (attrAt c.attrs ((cmdOf c.commands s).effects.getD k2 default).attr) default) (hc.2.1 _) (Z9j (hf.2 _ g2)) (fun hk3=>Zb2 (g4 hk3)),?_⟩|refine QI ?_|refine QK ?_|refine .inl ⟨wrap64 (by omega),?_⟩)<;>conv=>whnf))
  refine⟨k2+1,[],⟨by omega,trivial⟩,by omega,?_⟩;rw[applyTo,stepL,<-hok.2];(repeat'(first|exact QC|refine qa ?_ ?_))
  ·simp
  refine Zas (i:=attrAt c.attrs ((cmdOf c.commands s).effects.getD k2 default).attr) (F:=updAt _ _ _ _) (fun i hi e=>?_) (fun hi=>?_)
  ·simp only[Q4];rw[Z11 e];exact PSubs.rfl
  simp only[Q4];rw[Z19];exact PSubs.rfl
 have ek:k2=(cmdOf c.commands s).effects.length:=by omega
 subst ek
 skip
 refine⟨?_,?_⟩<;>(conv=>whnf)
 ·exact .rfl
 exact .rfl
theorem Zcf(l:List ByteArray)(hl:smallL l):AC Tryz.prog 61 [.pv (roL 1 cstr l)] [] (.pv (vint (wordsE l))) []:=by
 have hl2:l.length<=1048576:=hl;refine AC.of_awp (T:=T) T_ok hm Tryz.call61 Tryz.func61 rfl rfl rfl ?_
 conv=>whnf
 refine loop_k (ι:=Nat) [0] [] (fun k=>k<=l.length∧∀j,j<k->(if validName (l.getD j default)=false then(10:Int)else if idxOf l (l.getD j default)<j then 9 else 0)=0) (fun k=>l.length-k) 0 (fun k=>[(3,.pv (vint k))]) (fun _=>[]) [] ⟨qe _,fun j h=>absurd h (by omega)⟩ ?_ (fun k hk=>?_)
 ·exact QD
 obtain⟨hkn,hinv⟩:=hk
 conv=>whnf
 repeat(any_goals((first|refine⟨QT ?_,QF ?_⟩<;>intro h<;>(try simp only[Q0,Q1,Q2,Q3,Q4,Q5,Q6,Q7,Q8,reduceCtorEq]at h)|refine .inl ⟨_,Z0p (l.getD k default),?_⟩|refine .inl ⟨_,Z1a l (l.getD k default) hl2,?_⟩|refine QI ?_|refine .inl ⟨wrap64 (by omega),?_⟩)<;>conv=>whnf))
 ·exact PSub.int (by unfold wordsE;rw[Z06 (k:=k) (by omega) (by rw[qK h];decide) hinv,qK h])
 ·rename_i h1;exact PSub.int (by unfold wordsE;rw[Z06 (k:=k) (by omega) (by rw[qJ (by rw[h1];decide),qK h];decide) hinv,qJ (by rw[h1];decide),qK h])
 ·rename_i h1;refine⟨k+1,[],⟨by omega,?_⟩,by first|omega|(dsimp only;omega),?_⟩;rotate_left
  ·exact QD
  intro j hj
  by_cases e:j=k
  ·subst e;rw[qJ (by rw[h1];decide),qJ h]
  exact hinv j (by omega)
 exact PSub.int (by unfold wordsE;rw[Z0c fun j hj=>hinv j (by omega)])
theorem Zl5(s:Sco)(hs:smallS s):AC Tryz.prog 32 [.pv (.agg (cSco s))] [] (.pv (vint (scoE s))) []:=by
 refine AC.of_awp (T:=T) T_ok hm Tryz.call32 Tryz.func32 rfl rfl rfl ?_
 conv=>whnf
 repeat(any_goals((first|refine⟨QT ?_,QF ?_⟩<;>intro h<;>(try simp only[Q0,Q1,Q2,Q3,Q4,Q5,Q6,Q7,Q8,reduceCtorEq]at h)|refine .inl ⟨_,Z8b s.home hs.1,?_⟩|refine .inl ⟨_,Zcf s.modes hs.2.1,?_⟩|refine .inl ⟨_,Zcf s.scenes hs.2.2,?_⟩)<;>conv=>whnf))
 all_goals first
  |contradiction
  |(exfalso;omega)
  |exact PSub.rfl
  |(refine PSub.lit_sb ?_;(first|(simp[scoE, *];done)|(simp_all[scoE];done)|((try simp only[scoE]);(repeat' split)<;>(try simp only[qh,qj,qd,Q1,qc,Q0,Q6])<;>first|rfl|omega|(simp_all;done)|(simp_all;omega))))
  |(refine PSub.sb ?_;(first|(simp[scoE, *];done)|(simp_all[scoE];done)|((try simp only[scoE]);(repeat' split)<;>(try simp only[qh,qj,qd,Q1,qc,Q0,Q6])<;>first|rfl|omega|(simp_all;done)|(simp_all;omega))))
  |(refine PSub.sb_lit ?_;(first|(simp[scoE, *];done)|(simp_all[scoE];done)|((try simp only[scoE]);(repeat' split)<;>(try simp only[qh,qj,qd,Q1,qc,Q0,Q6])<;>first|rfl|omega|(simp_all;done)|(simp_all;omega))))
  |(refine PSub.int ?_;(first|(simp[scoE, *];done)|(simp_all[scoE];done)|((try simp only[scoE]);(repeat' split)<;>(try simp only[qh,qj,qd,Q1,qc,Q0,Q6])<;>first|rfl|omega|(simp_all;done)|(simp_all;omega))))
  |skip
theorem Zcb(e:Ex):AC Tryz.prog 174 [.pv (.agg (cEx e)),.pv (.agg cEx0)] [] (.pv (vbool (zeroX e))) []:=by
 refine AC.ex ?_;refine AC.of_awp (T:=T) T_ok hm Tryz.call174 Tryz.func174 rfl rfl rfl ?_
 conv=>whnf
 repeat(any_goals((first|refine⟨QT ?_,QF ?_⟩<;>intro h<;>(try simp only[Q0,Q1,Q2,Q3,Q4,Q5,Q6,Q7,Q8,reduceCtorEq]at h))<;>conv=>whnf))
 all_goals(try simp only[Z3x,Z3i,decide_true,Bool.and_true,Q1,Q0]at *)
 all_goals first
  |contradiction
  |(exfalso;omega)
  |exact PSub.rfl
  |(refine PSub.lit_sb ?_;(first|(simp[zeroX, *];done)|(simp_all[zeroX];done)|((try simp only[zeroX]);(repeat' split)<;>(try simp only[qh,qj,qd,Q1,qc,Q0,Q6])<;>first|rfl|omega|(simp_all;done)|(simp_all;omega))))
  |(refine PSub.sb ?_;(first|(simp[zeroX, *];done)|(simp_all[zeroX];done)|((try simp only[zeroX]);(repeat' split)<;>(try simp only[qh,qj,qd,Q1,qc,Q0,Q6])<;>first|rfl|omega|(simp_all;done)|(simp_all;omega))))
  |(refine PSub.sb_lit ?_;(first|(simp[zeroX, *];done)|(simp_all[zeroX];done)|((try simp only[zeroX]);(repeat' split)<;>(try simp only[qh,qj,qd,Q1,qc,Q0,Q6])<;>first|rfl|omega|(simp_all;done)|(simp_all;omega))))
  |(refine PSub.int ?_;(first|(simp[zeroX, *];done)|(simp_all[zeroX];done)|((try simp only[zeroX]);(repeat' split)<;>(try simp only[qh,qj,qd,Q1,qc,Q0,Q6])<;>first|rfl|omega|(simp_all;done)|(simp_all;omega))))
  |skip
 refine loop_k (ι:=Nat) [2,3] [2,3] (fun k=>k=0) (fun _=>0) 0 (fun k=>[(5,.pv (vint k))]) (fun _=>[]) [] rfl ?_ (fun k hk=>?_)
 ·exact QD
 subst hk
 conv=>whnf
 refine⟨fun h=>?_,fun h=>?_⟩<;>(conv=>whnf)
 ·simp only[Q0]at h;exfalso;omega
 all_goals first
  |contradiction
  |(exfalso;omega)
  |exact PSub.rfl
  |(refine PSub.lit_sb ?_;(first|(simp[zeroX, *];done)|(simp_all[zeroX];done)|((try simp only[zeroX]);(repeat' split)<;>(try simp only[qh,qj,qd,Q1,qc,Q0,Q6])<;>first|rfl|omega|(simp_all;done)|(simp_all;omega))))
  |(refine PSub.sb ?_;(first|(simp[zeroX, *];done)|(simp_all[zeroX];done)|((try simp only[zeroX]);(repeat' split)<;>(try simp only[qh,qj,qd,Q1,qc,Q0,Q6])<;>first|rfl|omega|(simp_all;done)|(simp_all;omega))))
  |(refine PSub.sb_lit ?_;(first|(simp[zeroX, *];done)|(simp_all[zeroX];done)|((try simp only[zeroX]);(repeat' split)<;>(try simp only[qh,qj,qd,Q1,qc,Q0,Q6])<;>first|rfl|omega|(simp_all;done)|(simp_all;omega))))
  |(refine PSub.int ?_;(first|(simp[zeroX, *];done)|(simp_all[zeroX];done)|((try simp only[zeroX]);(repeat' split)<;>(try simp only[qh,qj,qd,Q1,qc,Q0,Q6])<;>first|rfl|omega|(simp_all;done)|(simp_all;omega))))
  |skip
theorem Zcd(e:Ex):AC Tryz.prog 228 [.pv (.agg (cEx e))] [] (.pv (vbool (zeroX e))) []:=by
 refine AC.of_awp (T:=T) T_ok hm Tryz.call228 Tryz.func228 rfl rfl rfl ?_
 conv=>whnf
 repeat(any_goals((first|refine .inl ⟨_,Zcb e,?_⟩)<;>conv=>whnf))
 exact PSub.rfl
theorem Z8e(n:Int):AC Tryz.prog 226 [.pv (vint n)] [] (.pv (vbool (decide (1<=n∧n<=250)))) []:=by
 refine AC.of_awp (T:=T) T_ok hm Tryz.call226 Tryz.func226 rfl rfl rfl ?_
 conv=>whnf
 repeat(any_goals((first|refine⟨QT ?_,QF ?_⟩<;>intro h<;>(try simp only[Q0,Q1,Q2,Q3,Q4,Q5,Q6,Q7,Q8,reduceCtorEq]at h))<;>conv=>whnf))
 all_goals first
  |contradiction
  |(exfalso;omega)
  |exact PSub.rfl
  |(refine PSub.lit_sb ?_;(first|(simp[and_true, *];done)|(simp_all[and_true];done)|((try simp only[and_true]);(repeat' split)<;>(try simp only[qh,qj,qd,Q1,qc,Q0,Q6])<;>first|rfl|omega|(simp_all;done)|(simp_all;omega))))
  |(refine PSub.sb ?_;(first|(simp[and_true, *];done)|(simp_all[and_true];done)|((try simp only[and_true]);(repeat' split)<;>(try simp only[qh,qj,qd,Q1,qc,Q0,Q6])<;>first|rfl|omega|(simp_all;done)|(simp_all;omega))))
  |(refine PSub.sb_lit ?_;(first|(simp[and_true, *];done)|(simp_all[and_true];done)|((try simp only[and_true]);(repeat' split)<;>(try simp only[qh,qj,qd,Q1,qc,Q0,Q6])<;>first|rfl|omega|(simp_all;done)|(simp_all;omega))))
  |(refine PSub.int ?_;(first|(simp[and_true, *];done)|(simp_all[and_true];done)|((try simp only[and_true]);(repeat' split)<;>(try simp only[qh,qj,qd,Q1,qc,Q0,Q6])<;>first|rfl|omega|(simp_all;done)|(simp_all;omega))))
  |skip
theorem evt_eq(a b:Evt):(decide (a.dev=b.dev)&&(decide (a.cluster=b.cluster)&&(decide (a.name=b.name)&&true)))=decide (a=b):=by
 obtain⟨a1,a2,a3⟩:=a;obtain⟨b1,b2,b3⟩:=b;rw[qt];simp
theorem Zpi(a:Evt):(decide (a.dev=0)&&(decide (a.cluster=⟨#[]⟩)&&decide (a.name=⟨#[]⟩)))=decide (a=noEvt):=by have:=evt_eq a noEvt;simp only[Bool.and_true]at this;exact this
set_option maxHeartbeats 1000000 in
theorem Zl4(t:Trg):AC Tryz.prog 225 [.pv (.agg (cTrg t))] [] (.pv (vbool (trgSpare t))) []:=by
 refine AC.of_awp (T:=T) T_ok hm Tryz.call225 Tryz.func225 rfl rfl rfl ?_
 conv=>whnf
 repeat(any_goals((first|refine⟨QT ?_,QF ?_⟩<;>intro h<;>(try simp only[Q0,Q1,Q2,Q3,Q4,Q5,Q6,Q7,Q8,reduceCtorEq]at h))<;>conv=>whnf))
 all_goals(try simp only[Z3x,Z3i,Zpi,decide_true,Bool.and_true,Q1,Q0]at *)
 all_goals first
  |contradiction
  |(exfalso;omega)
  |exact PSub.rfl
  |(refine PSub.lit_sb ?_;(first|(simp[trgSpare, *];done)|(simp_all[trgSpare];done)|((try simp only[trgSpare]);(repeat' split)<;>(try simp only[qh,qj,qd,Q1,qc,Q0,Q6])<;>first|rfl|omega|(simp_all;done)|(simp_all;omega))))
  |(refine PSub.sb ?_;(first|(simp[trgSpare, *];done)|(simp_all[trgSpare];done)|((try simp only[trgSpare]);(repeat' split)<;>(try simp only[qh,qj,qd,Q1,qc,Q0,Q6])<;>first|rfl|omega|(simp_all;done)|(simp_all;omega))))
  |(refine PSub.sb_lit ?_;(first|(simp[trgSpare, *];done)|(simp_all[trgSpare];done)|((try simp only[trgSpare]);(repeat' split)<;>(try simp only[qh,qj,qd,Q1,qc,Q0,Q6])<;>first|rfl|omega|(simp_all;done)|(simp_all;omega))))
  |(refine PSub.int ?_;(first|(simp[trgSpare, *];done)|(simp_all[trgSpare];done)|((try simp only[trgSpare]);(repeat' split)<;>(try simp only[qh,qj,qd,Q1,qc,Q0,Q6])<;>first|rfl|omega|(simp_all;done)|(simp_all;omega))))
  |skip
set_option maxHeartbeats 1000000 in
theorem Zl3(t:Trg):AC Tryz.prog 170 [.pv (.agg (cTrg t))] [] (.pv (vint (trgE t))) []:=by
 refine AC.of_awp (T:=T) T_ok hm Tryz.call170 Tryz.func170 rfl rfl rfl ?_
 conv=>whnf
 repeat(any_goals((first|refine⟨QT ?_,QF ?_⟩<;>intro h<;>(try simp only[Q0,Q1,Q2,Q3,Q4,Q5,Q6,Q7,Q8,reduceCtorEq]at h)|refine .inl ⟨_,Zl4 t,?_⟩|refine .inl ⟨_,Z8e t.key.dev,?_⟩|refine .inl ⟨_,Z8e t.event.dev,?_⟩|refine .inl ⟨_,Z0p t.key.cluster,?_⟩|refine .inl ⟨_,Z0p t.key.attr,?_⟩|refine .inl ⟨_,Z0p t.event.cluster,?_⟩|refine .inl ⟨_,Z0p t.event.name,?_⟩|refine .inl ⟨_,Z0p t.name,?_⟩)<;>conv=>whnf))
 all_goals first
  |contradiction
  |(exfalso;omega)
  |exact PSub.rfl
  |(refine PSub.lit_sb ?_;(first|(simp[trgE,namedE, *];done)|(simp_all[trgE,namedE];done)|((try simp only[trgE,namedE]);(repeat' split)<;>(try simp only[qh,qj,qd,Q1,qc,Q0,Q6])<;>first|rfl|omega|(simp_all;done)|(simp_all;omega))))
  |(refine PSub.sb ?_;(first|(simp[trgE,namedE, *];done)|(simp_all[trgE,namedE];done)|((try simp only[trgE,namedE]);(repeat' split)<;>(try simp only[qh,qj,qd,Q1,qc,Q0,Q6])<;>first|rfl|omega|(simp_all;done)|(simp_all;omega))))
  |(refine PSub.sb_lit ?_;(first|(simp[trgE,namedE, *];done)|(simp_all[trgE,namedE];done)|((try simp only[trgE,namedE]);(repeat' split)<;>(try simp only[qh,qj,qd,Q1,qc,Q0,Q6])<;>first|rfl|omega|(simp_all;done)|(simp_all;omega))))
  |(refine PSub.int ?_;(first|(simp[trgE,namedE, *];done)|(simp_all[trgE,namedE];done)|((try simp only[trgE,namedE]);(repeat' split)<;>(try simp only[qh,qj,qd,Q1,qc,Q0,Q6])<;>first|rfl|omega|(simp_all;done)|(simp_all;omega))))
  |skip
end Go.Abs
