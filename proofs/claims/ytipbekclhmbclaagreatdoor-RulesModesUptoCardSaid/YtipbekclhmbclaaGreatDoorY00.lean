/- YtipbekclhmbclaaGreatDoorY00: walks and contracts. -/
import Derived.Test.YtipbekclhmbclaaGreatDoorX09
import Derived.ChangeArms
import Derived.ChangeOld
import Derived.DataReads

set_option linter.unusedVariables false
set_option linter.unusedSimpArgs false
set_option linter.unusedSectionVars false

namespace Go.Abs
open Go.RowKit
section
variable {H:Type} (enc:TypeId×Value->H) (P:Program) (w:World) (bulk:DataW H->Nat) (B:Nat)
end
section
variable {H:Type} {enc:TypeId×Value->H} {P:Program} {w:World} {bulk:DataW H->Nat} {B:Nat}
theorem Opens.arg_cell{t:TypeId}{α:Type}{cs:α->PV}{good:α->Prop}{v:Value}{d:DataW H}{ps:List MemPlace}(h:Opens enc P w bulk B t (fun a=>[cs a]) good)(hc:v.cells.toList = [v])
  (hd:DataW.Trod enc P w 0 (fun _=>true) true t v d ps) (hb:bulk d<=B):∃a:α,good a∧PR w (fun _=>False) (cs a) v:=by
 obtain⟨n,hn⟩:=hd;rw[hc]at hn;obtain⟨a,ha,hr⟩:=h _ _ _ _ hn hb;exact⟨a,ha,by simpa using hr.pr 0 _ rfl⟩
end
theorem Zxw{P:Program}{w:World}{r:Go.Reach}{base:Nat}{t:TypeId}{v:Value}(ht:P.underlying t=some .string)(h:Value.okWide P w r base t v):v.cells.toList = [v]:=by
 cases v<;>first|rfl|simp[Value.okWide,ht,Cell.okWide,Cell.ok]at h
open Go.Proofs
set_option maxRecDepth 10000
theorem Z53(a b:Key):AC Tryz.prog 21 [.pv (.agg (cKey a)),.pv (.agg (cKey b))] [] (.pv (vbool (keyLess a b))) []:=by
 refine AC.of_awp (T:=T) T_ok hm Tryz.call21 Tryz.func21 rfl rfl rfl ?_
 conv=>whnf
 repeat(any_goals((first|refine⟨QT ?_,QF ?_⟩<;>intro h<;>(try simp only[Q0,Q1,Q2,Q3,Q4,Q5,Q6,Q7,Q8,reduceCtorEq]at h))<;>conv=>whnf))
 all_goals(try simp only[Q0,Q1,Q2,Q3,Q4,Q5,Q6,Q7,Q8,reduceCtorEq]at *)
 all_goals first
  |contradiction
  |(exfalso;omega)
  |exact PSub.rfl
  |(refine PSub.int ?_;simp only[keyLess];(repeat' split)<;>first|rfl|omega|(simp_all[-List.getD_eq_getElem?_getD];done)|(simp_all[-List.getD_eq_getElem?_getD];omega))
  |(refine PSub.sb ?_;simp_all[keyLess,-List.getD_eq_getElem?_getD];done)
  |(refine PSub.lit_sb ?_;simp_all[keyLess,-List.getD_eq_getElem?_getD];done)
  |(refine PSub.sb_lit ?_;simp_all[keyLess,-List.getD_eq_getElem?_getD];done)
  |(refine PSub.sb ?_;rw[qt];simp_all[keyLess,-List.getD_eq_getElem?_getD];done)
  |(refine PSub.lit_sb ?_;rw[qt];simp_all[keyLess,-List.getD_eq_getElem?_getD];done)
  |(refine PSub.sb_lit ?_;rw[qt];simp_all[keyLess,-List.getD_eq_getElem?_getD];done)
  |skip
open Go.Proofs Go.RowKit
section
variable {H:Type} {enc:TypeId×Value->H} {w:World} {bulk:DataW H->Nat}
theorem Zs2(hB:BulkOk bulk):Opens enc Tryz.prog w bulk BB 66 cCause (fun c=>inI64 c.kind∧inI64 c.prio):=
 (Opens.struct hB Tryz.underlying66 (by kernel_rfl) (.cons (size:=1) rfl (by kernel_rfl) op_int (.cons (size:=1) rfl (by kernel_rfl) (Z0k hB) (.cons (size:=1) rfl (by kernel_rfl) op_int .nil)))).imp (fun x=>⟨x.1,x.2.1,x.2.2.1⟩) (fun _=>rfl) (fun _ h=>⟨h.1,h.2.2.1⟩)
end
theorem Zkj(a b:Val):AC Tryz.prog 71 [.pv (.agg (cVal a)),.pv (.agg (cVal b))] [] (.pv (vbool (vLess a b))) []:=by
 refine AC.of_awp (T:=T) T_ok hm Tryz.call71 Tryz.func71 rfl rfl rfl ?_
 conv=>whnf
 repeat(any_goals((first|refine⟨QT ?_,QF ?_⟩<;>intro h<;>(try simp only[Q0,Q1,Q2,Q3,Q4,Q5,Q6,Q7,Q8,reduceCtorEq]at h))<;>conv=>whnf))
 all_goals(refine PSub.sb ?_;unfold vLess;simp[*];try rfl)
theorem Zci(a b:Write):AC Tryz.prog 41 [.pv (.agg (cWrite a)),.pv (.agg (cWrite b))] [] (.pv (vbool (befW a b))) []:=by
 refine AC.of_awp (T:=T) T_ok hm Tryz.call41 Tryz.func41 rfl rfl rfl ?_
 conv=>whnf
 repeat(any_goals((first|refine⟨QT ?_,QF ?_⟩<;>intro h<;>(try simp only[Q0,Q1,Q2,Q3,Q4,Q5,Q6,Q7,Q8,reduceCtorEq]at h)|refine .inl ⟨_,Zkj a.value b.value,?_⟩|refine .inl ⟨_,Z53 a.key b.key,?_⟩)<;>conv=>whnf))
 ·refine PSub.sb ?_;unfold befW;rw[qK h]
 ·refine PSub.sb ?_;unfold befW;rw[qJ (by omega),qK h]
 ·refine PSub.sb ?_;unfold befW;rw[qJ (by omega),qJ (by omega),qK h];rfl
 ·refine PSub.sb ?_;unfold befW;rw[qJ (by omega),qJ (by omega),qJ (by simp_all),qK h]
 ·have h2:decide (a.value=b.value)=false:=(Z2t _ _).symm.trans h;refine PSub.sb ?_;unfold befW;rw[qJ (by omega),qJ (by omega),qJ (by simp_all),qJ (by omega),qK (of_decide_eq_false h2)]
 have h2:decide (a.value=b.value)=true:=(Z2t _ _).symm.trans h;refine PSub.sb ?_;unfold befW;rw[qJ (by omega),qJ (by omega),qJ (by simp_all),qJ (by omega),qJ (fun x=>x (qC h2))]
theorem Zlq(o:Out)(s:ByteArray)(ho:smallL o.modes):AC Tryz.prog 15 [.pv (.agg (cOut o)),.pv (vstr s)] [] (.pv (vstr (modeT o.modes s))) []:=by
 have hl:o.modes.length<=1048576:=ho;have hmt:0<o.modes.length->modeT o.modes s=(bwL o.modes (o.modes.length-1)).value.s:=Zg5;refine AC.of_awp (T:=T) T_ok hm Tryz.call15 Tryz.func15 rfl rfl rfl ?_
 conv=>whnf
 conv=>whnf
 refine loop_k (ι:=Int×Nat) [1,2] [2] (fun x=>x.2<=o.modes.length∧(x.2=0->x.1 = -1)∧(0<x.2->0<=x.1∧x.1.toNat<o.modes.length∧o.modes.getD x.1.toNat default=bwL o.modes (x.2-1))) (fun x=>o.modes.length-x.2) (-1,0) (fun x=>[(5,.pv (vint x.1)),(6,.pv (vint x.2))]) (fun _=>[]) [] ⟨qe _,fun _=>rfl,fun h=>absurd h (qM _)⟩ ?_ (fun x hx=>?_)
 ·exact QD
 obtain⟨b,k⟩:=x;obtain⟨h1,h2,h3⟩:=hx;dsimp only at h1 h2 h3;dsimp only
 conv=>whnf
 refine⟨fun h=>?_,fun h=>?_⟩<;>(try simp only[Q0,Q1,Q2,Q3,Q4,Q5,Q6,Q7,Q8,reduceCtorEq]at h)<;>(conv=>whnf)
 ·have hk:k<o.modes.length:=by omega
  by_cases h0:k=0
  ·have hb:=h2 h0
   repeat(any_goals((first|refine⟨QT ?_,QF ?_⟩<;>intro h<;>(try simp only[Q0,Q1,Q2,Q3,Q4,Q5,Q6,Q7,Q8,reduceCtorEq]at h)|refine QI ?_|refine QK ?_|refine .inl ⟨wrap64 (by omega),?_⟩)<;>conv=>whnf))
   ·refine⟨((k:Int),k+1),[],⟨by dsimp only;omega,fun h=>absurd h (by dsimp only;omega),fun _=>⟨by dsimp only;omega,by dsimp only;omega,?_⟩⟩,by dsimp only;omega,?_⟩
    ·dsimp only;rw[h0];rfl
    exact QD
   exfalso;omega
  obtain⟨b1,b2,b3⟩:=h3 (by omega);have hs:=Zdb (l:=o.modes) (k:=k-1) (by omega);rw[show 1+(k-1)=k from by omega,show k-1+1=k from by omega,<-b3]at hs
  repeat(any_goals((first|refine⟨QT ?_,QF ?_⟩<;>intro h<;>(try simp only[Q0,Q1,Q2,Q3,Q4,Q5,Q6,Q7,Q8,reduceCtorEq]at h)|refine .inl ⟨_,Zci (o.modes.getD k default) (o.modes.getD b.toNat default),?_⟩|refine QI ?_|refine QK ?_|refine .inl ⟨wrap64 (by omega),?_⟩)<;>conv=>whnf))
  ·exfalso;omega
  ·rw[if_pos h]at hs;refine⟨((k:Int),k+1),[],⟨by dsimp only;omega,fun h=>absurd h (by dsimp only;omega),fun _=>⟨by dsimp only;omega,by dsimp only;omega,?_⟩⟩,by dsimp only;omega,?_⟩
   ·dsimp only;rw[Int.toNat_natCast,Nat.add_sub_cancel];exact hs.symm
   exact QD
  rw[if_neg (by rw[h];exact Bool.false_ne_true)]at hs;refine⟨(b,k+1),[],⟨by dsimp only;omega,fun h=>absurd h (by dsimp only;omega),fun _=>⟨b1,b2,?_⟩⟩,by dsimp only;omega,?_⟩
  ·dsimp only;rw[Nat.add_sub_cancel];exact hs.symm
  exact QD
 have e:k=o.modes.length:=by omega
 repeat(any_goals((first|refine⟨QT ?_,QF ?_⟩<;>intro h<;>(try simp only[Q0,Q1,Q2,Q3,Q4,Q5,Q6,Q7,Q8,reduceCtorEq]at h)|refine QI ?_)<;>conv=>whnf))
 ·have e0:o.modes.length=0:=by
   by_cases hz:0<k
   ·have:=(h3 hz).1;omega
   omega
  rw[List.eq_nil_of_length_eq_zero e0];exact .rfl
 have hz:0<k:=by
  by_cases hz:0<k
  ·exact hz
  have:=h2 (by omega);omega
 rw[hmt (by omega),(h3 hz).2.2,e];exact .rfl
section
variable {H:Type} {enc:TypeId×Value->H} {w:World} {bulk:DataW H->Nat}
theorem Zsl(hB:BulkOk bulk):Opens enc Tryz.prog w bulk BB 68 cWrite (fun _=>True):=
 (Opens.struct hB Tryz.underlying68 (by kernel_rfl) (.cons (size:=3) rfl (by kernel_rfl) (op_Key hB) (.cons (size:=3) rfl (by kernel_rfl) (Zae hB) (.cons (size:=3) rfl (by kernel_rfl) (Zs2 hB) (.cons (size:=1) rfl (by kernel_rfl) op_int .nil))))).imp (fun x=>⟨x.1,x.2.1,x.2.2.1,x.2.2.2.1⟩) (fun _=>rfl) (fun _ _=>trivial)
theorem Zgn(hB:BulkOk bulk):Opens enc Tryz.prog w bulk BB 43 (fun l:List Write=>[roL 10 cWrite l]) smallL:=
 (Opens.slice hB Tryz.underlying43 (by kernel_rfl) (by decide) (Zsl hB)).imp id (fun _=>rfl) (fun _ h=>h.1)
theorem Zyz(hB:BulkOk bulk):Opens enc Tryz.prog w bulk BB 45 cOut smallOut:=
 (Opens.struct hB Tryz.underlying45 (by kernel_rfl) (.cons (size:=1) rfl (by kernel_rfl) (Zgn hB) (.cons (size:=1) rfl (by kernel_rfl) (Zgn hB) (.cons (size:=1) rfl (by kernel_rfl) (Z2k hB) (.cons (size:=1) rfl (by kernel_rfl) (Z2k hB) .nil))))).imp (fun x=>⟨x.1,x.2.1,x.2.2.1,x.2.2.2.1⟩) (fun _=>rfl) (fun _ h=>⟨h.1,h.2.1,h.2.2.1,h.2.2.2.1⟩)
end
theorem Zxe(o:Out)(s:ByteArray)(ho:smallOut o):AC Tryz.prog 4 [.pv (.agg (cOut o)),.pv (vstr s)] [] (.pv (vbool true)) []:=by
 have hl:o.modes.length<=1048576:=ho.m;have r1:=Z8j o s ho.m;have r2:=Zlq o s ho.m;generalize modeT o.modes s=m at *;refine AC.of_awp (T:=T) T_ok hm Tryz.call4 Tryz.func4 rfl rfl rfl ?_
 conv=>whnf
 repeat(any_goals((first|refine⟨QT ?_,QF ?_⟩<;>intro h<;>(try simp only[Q0,Q1,Q2,Q3,Q4,Q5,Q6,Q7,Q8,reduceCtorEq]at h)|refine .inl ⟨_,Z2w,?_⟩|refine .inl ⟨_,r1,?_⟩|refine .inl ⟨_,r2,?_⟩|refine QK ?_)<;>conv=>whnf))
 all_goals first
  |exact PSub.rfl
  |exact PSub.sb (qB rfl)
  |exact PSub.lit_sb rfl
  |(exfalso;exact h rfl)
  |(exfalso;simp at h;done)
end Go.Abs
