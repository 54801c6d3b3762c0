/- YtipbekclhmbclaaGreatDoorX10: walks and contracts. -/
import Derived.Test.YtipbekclhmbclaaGreatDoorX09

set_option linter.unusedVariables false
set_option linter.unusedSimpArgs false
set_option linter.unusedSectionVars false

namespace Go.Abs
open Go.Proofs
set_option maxRecDepth 10000
theorem Z0db (v:Vw) (e:Ex):valE (evlE v e).1=0:=by
 have hok:exE e=0→okN e:=fun h=>((Z0dd e).1 h).1
 unfold evlE
 by_cases h:exE e=0
 ·rw [if_neg (fun x=>x h)]
  unfold fndV
  split
  ·rfl
  ·exact evR_ok v (hok h)
 ·rw [if_pos h];rfl
theorem Z0ya (v:Vw) (e:Ex):truE v e=((evlE v e).2 && (decide ((evlE v e).1.kind=1) && decide ((evlE v e).1.n=1))):=by
 unfold truE
 have h:=Z0db v e
 generalize (evlE v e).1=x at *
 congr 1
 rw [Bool.eq_iff_iff]
 simp only [decide_eq_true_eq,Bool.and_eq_true]
 constructor
 ·rintro rfl;exact⟨rfl,rfl⟩
 ·rintro ⟨h1,h2⟩
  rcases Z0yk h h1 with e|e
  ·exact e
  ·rw [e] at h2;cases h2
theorem Z00v (v:Vw) (e:Ex) (hv:smallV2 v):AC Tryz.prog 27 [.pv (.agg (cVw v)),.pv (.agg (cEx e))] [] (.pv (vbool (truE v e))) []:=by
 rw [Z0ya]
 refine AC.of_awp (T:=T) T_ok hm Tryz.call27 Tryz.func27 rfl rfl rfl ?_
 conv=>whnf
 repeat (any_goals (first
  |(refine⟨fun(h:(_:Bool)=true)=>?_,fun(h:(_:Bool)=false)=>?_⟩<;>(try simp only [Q0,Q1,Q2,Q3,Q4,Q5,Q6,Q7,Q8,reduceCtorEq] at h)<;>(conv=>whnf))
  |(refine .inl ⟨_,Z00u v e hv,?_⟩;conv=>whnf)
  |(refine And.intro (by(try simp only [Int.toNat_natCast]);omega) ?_;conv=>whnf)
  |(refine And.intro (show(_:Bool)=true from by kernel_rfl) ?_;conv=>whnf)
  |(refine .inl ⟨wrap64 (by omega),?_⟩;conv=>whnf)))
 all_goals first
  |(refine PSub.sb ?_;simp_all;done)
  |(refine PSub.lit_sb ?_;simp_all;done)
theorem Z01s (l:List ByteArray) (hl:l.length≤1048576):AC Tryz.prog 31 [.pv (roL 1 cstr l)] [] (.pv (roL 1 cstr (sortS l))) []:=by
 refine AC.of_awp (T:=T) T_ok hm Tryz.call31 Tryz.func31 rfl rfl rfl ?_
 conv=>whnf
 refine .inr (.inl ⟨_,_,_,Z05t l.length (fun i=>cstr (l.getD i default)) hl,?_⟩)
 conv=>whnf
 refine .inr (.inr (.inl ⟨_,_,Z06d l (by omega),?_⟩))
 conv=>whnf
 refine .inr (.inr (.inr (.inl ⟨_,_,_,Z05u (sortedS l) (by rw [Z0uc];omega),?_⟩)))
 conv=>whnf
 rw [Z0uc,Z0bp]
 exact .rfl
theorem Z09x (w:Write):∀ (l:List Write) (b:Write),bestW b (l ++ [w])=if befW w (bestW b l)=true then w else bestW b l
 | [],_=>rfl
 |x :: l,b=>by rw [List.cons_append,bestW,bestW,Z09x w l]
def bwL (l:List Write) (k:Nat):Write:=bestW (l.getD 0 default) ((l.drop 1).take k)
theorem Z0af {l:List Write} {k:Nat} (h:1+k < l.length):bwL l (k+1)=if befW (l.getD (1+k) default) (bwL l k)=true then l.getD (1+k) default else bwL l k:=by
 unfold bwL
 have e:(l.drop 1).getD k default=l.getD (1+k) default:=by simp [List.getD,Nat.add_comm]
 rw [Z0xx (by rw [List.length_drop];omega),e]
 exact Z09x _ _ _
theorem Z0lg {l:List Write} {s:ByteArray} (h:0 < l.length):modeT l s=(bwL l (l.length - 1)).value.s:=by
 cases l with
 |nil=>simp at h
 |cons w l=>
  unfold modeT bwL
  simp
theorem Z05a (o:Out) (s:ByteArray) (ho:smallL o.modes):AC Tryz.prog 14 [.pv (.agg (cOut o)),.pv (vstr s)] [] (.pv (vstr (modeT o.modes s))) []:=by
 have hl:o.modes.length≤1048576:=ho
 refine AC.of_awp (T:=T) T_ok hm Tryz.call14 Tryz.func14 rfl rfl rfl ?_
 conv=>whnf
 repeat (any_goals (first
  |(refine⟨fun(h:(_:Bool)=true)=>?_,fun(h:(_:Bool)=false)=>?_⟩<;>(try simp only [Q0,Q1,Q2,Q3,Q4,Q5,Q6,Q7,Q8,reduceCtorEq] at h)<;>(conv=>whnf))
  |(refine And.intro (by(try simp only [Int.toNat_natCast]);omega) ?_;conv=>whnf)
  |(refine And.intro (show(_:Bool)=true from by kernel_rfl) ?_;conv=>whnf)
  |(refine .inl ⟨wrap64 (by omega),?_⟩;conv=>whnf)))
 ·rw [List.eq_nil_of_length_eq_zero (l:=o.modes) (by omega)]
  exact .rfl
 rw [Z0lg (by omega)]
 generalize o.modes=l at *
 refine loop_k (ι:=Nat) [19,20] [] (fun k=>k≤l.length - 1) (fun k=>l.length - 1 - k) 0 (fun k=>[(5,.ptr 5 0),(21,.pv (vint k))]) (fun k=>[(5,.pbox (cWrite (bwL l k)))]) [] (Nat.zero_le _) ?_ (fun k hk=>?_)
 ·(repeat' (first|exact PSub.rfl|exact rfl|exact PSubs.rfl|exact trivial|exact PSub.lit_sb rfl|refine And.intro ?_ ?_))
  all_goals exact PSubs.rfl
 conv=>whnf
 have hs:=Z0af (l:=l) (k:=k)
 refine⟨fun h=>?_,fun h=>?_⟩<;>(try simp only [Q0,Q1,Q2,Q3,Q4,Q5,Q6,Q7,Q8,reduceCtorEq] at h)<;>(conv=>whnf)
 ·have hk2:1+k < l.length:=by omega
  replace hs:=hs hk2
  repeat (any_goals (first
   |(refine⟨fun(h:(_:Bool)=true)=>?_,fun(h:(_:Bool)=false)=>?_⟩<;>(try simp only [Q0,Q1,Q2,Q3,Q4,Q5,Q6,Q7,Q8,reduceCtorEq] at h)<;>(conv=>whnf))
   |(refine .inl ⟨_,Z054 (l.getD (1+k) default) (bwL l k),?_⟩;conv=>whnf)
   |(refine And.intro (by(try simp only [Int.toNat_natCast]);omega) ?_;conv=>whnf)
   |(refine And.intro (show(_:Bool)=true from by kernel_rfl) ?_;conv=>whnf)
   |(refine .inl ⟨wrap64 (by omega),?_⟩;conv=>whnf)))
  all_goals
   refine⟨k+1,[],by omega,by omega,?_⟩
   first|rw [if_pos h] at hs|rw [if_neg (by rw [h];exact Bool.false_ne_true)] at hs
   rw [hs]
   (repeat' (first|exact PSub.rfl|exact rfl|exact PSubs.rfl|exact trivial|exact PSub.lit_sb rfl|refine And.intro ?_ ?_))
   all_goals first
    |exact PSubs.rfl
    |skip
 ·have e:k=l.length - 1:=by omega
  subst e
  conv=>whnf
  exact .rfl
end Go.Abs
namespace Go.Abs
open Go.Proofs
set_option maxRecDepth 10000
def actI (x:Stp):List PV:=[.ifc (if x.kind=1 then 135 else if x.kind=2 then 136 else if x.kind=3 then 137 else if x.kind=4 then 138 else 139) (.agg (cStp x))]
theorem act_1 {x:Stp} (h:x.kind=1):actI x = [.ifc 135 (.agg (cStp x))]:=by unfold actI;rw [if_pos h]
theorem act_2 {x:Stp} (h:x.kind=2):actI x = [.ifc 136 (.agg (cStp x))]:=by unfold actI;rw [if_neg (by omega),if_pos h]
theorem act_3 {x:Stp} (h:x.kind=3):actI x = [.ifc 137 (.agg (cStp x))]:=by unfold actI;rw [if_neg (by omega),if_neg (by omega),if_pos h]
theorem act_4 {x:Stp} (h:x.kind=4):actI x = [.ifc 138 (.agg (cStp x))]:=by unfold actI;rw [if_neg (by omega),if_neg (by omega),if_neg (by omega),if_pos h]
theorem act_5 {x:Stp} (h1:¬ x.kind=1) (h2:¬ x.kind=2) (h3:¬ x.kind=3) (h4:¬ x.kind=4):actI x = [.ifc 139 (.agg (cStp x))]:=by unfold actI;rw [if_neg h1,if_neg h2,if_neg h3,if_neg h4]
set_option maxHeartbeats 1000000 in
theorem Z05c (l:List Stp) (hl:smallL l):AC Tryz.prog 28 [.pv (roL 16 cStp l)] [] (.pv (roL 1 actI l)) []:=by
 have hl:l.length≤1048576:=hl
 refine AC.of_awp (T:=T) T_ok hm Tryz.call28 Tryz.func28 rfl rfl rfl ?_
 conv=>whnf
 refine loop_k (ι:=Nat) [6,7] [] (fun k=>k≤l.length∧True) (fun k=>l.length - k) 0 (fun k=>[(3,.own 500),(8,.pv (vint k))]) (fun k=>[(500,rowL 1 actI (l.take k))]) [] ⟨Nat.zero_le _,trivial⟩ ?_ (fun k hk=>?_)
 ·(repeat' (first|exact PSub.rfl|exact rfl|exact PSubs.rfl|exact trivial|exact PSub.lit_sb rfl|refine And.intro ?_ ?_));all_goals ((intro i hi;exact absurd hi (by simp)))
 obtain⟨hkn,hinv⟩:=hk
 conv=>whnf
 refine⟨fun h=>?_,fun h=>?_⟩<;>(try simp only [Q0,Q1,Q2,Q3,Q4,Q5,Q6,Q7,Q8,reduceCtorEq] at h)<;>(conv=>whnf)
 ·have hk:k < l.length:=by omega
  have hsn:=Z0xx (l:=l) hk
  have hlen:(l.take k).length=k:=by rw [List.length_take];omega
  repeat (any_goals (first
   |(refine⟨fun(h:(_:Bool)=true)=>?_,fun(h:(_:Bool)=false)=>?_⟩<;>(try simp only [Q0,Q1,Q2,Q3,Q4,Q5,Q6,Q7,Q8,reduceCtorEq] at h)<;>(conv=>whnf))
   |(refine And.intro (by(try simp only [Int.toNat_natCast]);omega) ?_;conv=>whnf)
   |(refine And.intro (show(_:Bool)=true from by kernel_rfl) ?_;conv=>whnf)
   |(refine .inl ⟨wrap64 (by omega),?_⟩;conv=>whnf)))
  ·refine⟨k+1,[(500,27)],⟨by omega,trivial⟩,by omega,?_⟩
   have ha:=(act_1 h)
   rw [hsn]
   (repeat' (first|exact PSub.rfl|exact rfl|exact PSubs.rfl|exact trivial|exact PSub.lit_sb rfl|refine And.intro ?_ ?_))
   all_goals first
    |(simp;done)
    |skip
   all_goals
    refine Z0qz (fun i hi=>by simp only [if_pos hi];exact PSubs.rfl) ?_
    simp only [if_neg (Nat.lt_irrefl _),Nat.sub_self]
    rw [ha]
    exact PSubs.rfl
  ·refine⟨k+1,[(500,35)],⟨by omega,trivial⟩,by omega,?_⟩
   have ha:=(act_2 h)
   rw [hsn]
   (repeat' (first|exact PSub.rfl|exact rfl|exact PSubs.rfl|exact trivial|exact PSub.lit_sb rfl|refine And.intro ?_ ?_))
   all_goals first
    |(simp;done)
    |skip
   all_goals
    refine Z0qz (fun i hi=>by simp only [if_pos hi];exact PSubs.rfl) ?_
    simp only [if_neg (Nat.lt_irrefl _),Nat.sub_self]
    rw [ha]
    exact PSubs.rfl
  ·refine⟨k+1,[(500,43)],⟨by omega,trivial⟩,by omega,?_⟩
   have ha:=(act_3 h)
   rw [hsn]
   (repeat' (first|exact PSub.rfl|exact rfl|exact PSubs.rfl|exact trivial|exact PSub.lit_sb rfl|refine And.intro ?_ ?_))
   all_goals first
    |(simp;done)
    |skip
   all_goals
    refine Z0qz (fun i hi=>by simp only [if_pos hi];exact PSubs.rfl) ?_
    simp only [if_neg (Nat.lt_irrefl _),Nat.sub_self]
    rw [ha]
    exact PSubs.rfl
  ·refine⟨k+1,[(500,51)],⟨by omega,trivial⟩,by omega,?_⟩
   have ha:=(act_4 h)
   rw [hsn]
   (repeat' (first|exact PSub.rfl|exact rfl|exact PSubs.rfl|exact trivial|exact PSub.lit_sb rfl|refine And.intro ?_ ?_))
   all_goals first
    |(simp;done)
    |skip
   all_goals
    refine Z0qz (fun i hi=>by simp only [if_pos hi];exact PSubs.rfl) ?_
    simp only [if_neg (Nat.lt_irrefl _),Nat.sub_self]
    rw [ha]
    exact PSubs.rfl
  ·refine⟨k+1,[(500,19)],⟨by omega,trivial⟩,by omega,?_⟩
   have ha:=(act_5 (by assumption) (by assumption) (by assumption) h)
   rw [hsn]
   (repeat' (first|exact PSub.rfl|exact rfl|exact PSubs.rfl|exact trivial|exact PSub.lit_sb rfl|refine And.intro ?_ ?_))
   all_goals first
    |(simp;done)
    |skip
   all_goals
    refine Z0qz (fun i hi=>by simp only [if_pos hi];exact PSubs.rfl) ?_
    simp only [if_neg (Nat.lt_irrefl _),Nat.sub_self]
    rw [ha]
    exact PSubs.rfl
 ·have e:k=l.length:=by omega
  subst e
  rw [List.take_length]
  exact .rfl
end Go.Abs
namespace Go.Abs
open Go.Proofs
theorem Z0sz (s:Sco) (v:Vw) (x:Stp) (c:Cause) (i:Int):(setW s v x c i).length≤1:=by
 unfold setW;split<;>simp
theorem Z0sj (s:Sco) (sc:List Scene) (x:Stp) (c:Cause) (i:Int):(sceW s sc x c i).length≤256:=by
 unfold sceW
 split
 ·rename_i h
  have hc:=h.2
  unfold checkS at hc
  split at hc
  ·contradiction
  split at hc
  ·cases hc
  split at hc
  ·cases hc
  ·rw [List.length_map]
   have:(applyS (findS sc x.name) c (findS sc x.name).items.length).length≤(findS sc x.name).items.length:=by simp [applyS]
   omega
 ·simp
theorem Z0an {s:Sco} {v:Vw} {x:Stp} {c:Cause} {i:Int} {k:Clu} (h:CluOf s x k):(callW s v x c i).length≤12:=by
 have ek:cluX s x=k:=by unfold cluX;rw [h.part];rfl
 have e:callW s v x c i=chgTo v x k c i (aftL v x k).length:=by unfold callW chgTo;rw [ek]
 rw [e]
 have h1:=Z0ay v x k c i (aftL v x k).length
 have h2:=Z07p v x k
 have h3:=h.chk.attrs
 omega
theorem Z0x8 {s:Sco} {sc:List Scene} {v:Vw} {c:Cause} {x:Stp} {i:Int} (h:doE s x=0):(stpW s sc v c x i).length≤256:=by
 unfold stpW
 split
 ·have:=Z0sz s v x c i;omega
 split
 ·obtain⟨k,hk⟩:=clu_of ‹_› h
  have:=Z0an (v:=v) (c:=c) (i:=i) hk;omega
 split
 ·exact Z0sj s sc x c i
 ·simp
theorem Z0r8 (s:Sco) (sc:List Scene) (v:Vw) (r:Rul) (n:Nat):rulW s sc v r (n+1)=rulW s sc v r n ++ stpW s sc v (cauR r) (r.steps.getD n default) n:=by
 unfold rulW;rw [List.range_succ,List.flatMap_append];simp
theorem Z0r3 (r:Rul) (n:Nat):rulM r (n+1)=rulM r n ++ stpM (cauR r) (r.steps.getD n default) n:=by
 unfold rulM;rw [List.range_succ,List.flatMap_append];simp
theorem Z0r5 (r:Rul) (n:Nat):rulN r (n+1)=rulN r n ++ stpN (cauR r) (r.steps.getD n default):=by
 unfold rulN;rw [List.range_succ,List.flatMap_append];simp
theorem Z0r7 {s:Sco} {sc:List Scene} {v:Vw} {r:Rul} (h:ruleE s r=0):∀ n,n≤r.steps.length→(rulW s sc v r n).length≤256 * n
 |0,_=>by simp [rulW]
 |n+1,hn=>by
  rw [Z0r8,List.length_append]
  have h1:=Z0r7 (sc:=sc) (v:=v) h n (by omega)
  have h2:=Z0x8 (sc:=sc) (v:=v) (c:=cauR r) (i:=n) ((Z0r9 h).2.2.2 n (by omega))
  omega
theorem Z0r2 (r:Rul):∀ n,(rulM r n).length≤n
 |0=>by simp [rulM]
 |n+1=>by
  rw [Z0r3,List.length_append]
  have:=Z0r2 r n
  have h2:(stpM (cauR r) (r.steps.getD n default) n).length≤1:=by unfold stpM;split<;>simp
  omega
theorem Z0r4 (r:Rul):∀ n,(rulN r n).length≤n
 |0=>by simp [rulN]
 |n+1=>by
  rw [Z0r5,List.length_append]
  have:=Z0r4 r n
  have h2:(stpN (cauR r) (r.steps.getD n default)).length≤1:=by unfold stpN;split<;>simp
  omega
def rawO (s:Sco) (sc:List Scene) (v:Vw) (l:List Rul):Out:=⟨allW s sc v l,allM l,l.map Rul.name,allN l⟩
def rawK (s:Sco) (sc:List Scene) (v:Vw) (h:Hap) (l:List Rul) (k:Nat):Out:=rawO s sc v (ranL v h (l.take k))
def rawJ (s:Sco) (sc:List Scene) (v:Vw) (o:Out) (r:Rul) (j:Nat):Out:=⟨o.writes ++ rulW s sc v r j,o.modes ++ rulM r j,o.ran ++ [r.name],o.notes ++ rulN r j⟩
theorem Z0pg {s:Sco} {sc:List Scene} {v:Vw} {h:Hap} {l:List Rul} {k:Nat} (hk:k < l.length) (hr:ranB v h (l.getD k default)=false):rawK s sc v h l (k+1)=rawK s sc v h l k:=by
 unfold rawK ranL
 rw [Z0xx hk,List.filter_append]
 simp [hr,-List.getD_eq_getElem?_getD]
theorem Z0ph {s:Sco} {sc:List Scene} {v:Vw} {h:Hap} {l:List Rul} {k:Nat} (hk:k < l.length) (hr:ranB v h (l.getD k default)=true):rawK s sc v h l (k+1)=rawJ s sc v (rawK s sc v h l k) (l.getD k default) (l.getD k default).steps.length:=by
 unfold rawK ranL rawJ rawO allW allM allN
 rw [Z0xx hk,List.filter_append]
 simp [hr,-List.getD_eq_getElem?_getD]
structure lenO (o:Out) (k:Nat):Prop where
 w:o.writes.length≤2048 * k
 m:o.modes.length≤8 * k
 r:o.ran.length≤k
 n:o.notes.length≤8 * k
theorem Z0pd {s:Sco} {sc:List Scene} {v:Vw} {o:Out} {r:Rul} {j k:Nat} (h:lenO o k) (hr:ruleE s r=0) (hj:j≤r.steps.length):lenO (rawJ s sc v o r j) (k+1):=by
 have h8:=(Z0r0 (Z0r9 hr).1).2
 have h1:=Z0r7 (sc:=sc) (v:=v) hr j hj
 have h2:=Z0r2 r j
 have h3:=Z0r4 r j
 refine⟨?_,?_,?_,?_⟩
 ·have:=h.w;simp only [rawJ,List.length_append];omega
 ·have:=h.m;simp only [rawJ,List.length_append];omega
 ·have:=h.r;simp only [rawJ,List.length_append,List.length_singleton];omega
 ·have:=h.n;simp only [rawJ,List.length_append];omega
theorem Z0pf {s:Sco} {sc:List Scene} {v:Vw} {h:Hap} {l:List Rul} (hr:∀ r ∈ l,ruleE s r=0):∀ k,k≤l.length→lenO (rawK s sc v h l k) k
 |0,_=>⟨by simp [rawK,rawO,allW,ranL],by simp [rawK,rawO,allM,ranL],by simp [rawK,rawO,ranL],by simp [rawK,rawO,allN,ranL]⟩
 |k+1,hk=>by
  have ih:=Z0pf (sc:=sc) (v:=v) (h:=h) hr k (by omega)
  cases e:ranB v h (l.getD k default) with
  |false=>
   rw [Z0pg (by omega) e]
   have a:=ih.w;have b:=ih.m;have c:=ih.r;have d:=ih.n
   exact⟨by omega,by omega,by omega,by omega⟩
  |true=>
   rw [Z0ph (by omega) e]
   exact Z0pd ih (hr _ (by rw [Z0g2 _ _ (show k < l.length by omega)];exact List.getElem_mem _)) (Nat.le_refl _)
theorem Z0rh (s:Sco) (sc:List Scene) (v:Vw) (h:Hap) (l:List Rul):runO s sc v h l=⟨isortR ordW (rawK s sc v h l l.length).writes,isortR ordW (rawK s sc v h l l.length).modes,sortS (rawK s sc v h l l.length).ran,sortS (rawK s sc v h l l.length).notes⟩:=by
 unfold rawK
 rw [List.take_length];rfl
theorem Z0wy {r:Rul} (h:rulE r=0) {i:Nat} (hi:i < r.steps.length):r.name.size≤24∧((r.steps.getD i default).kind=5→(r.steps.getD i default).name.size≤60):=by
 constructor
 ·have h1:validName r.name=true:=by
   cases e:validName r.name with
   |true=>rfl
   |false=>unfold rulE at h;rw [if_pos e] at h;cases h
  exact(validName_iff.1 h1).2.1
 ·intro hk
  have hs:=Z0r1 h i hi
  unfold stpE at hs
  rw [if_neg (by omega),if_neg (by omega),if_pos (by omega)] at hs
  split at hs
  ·cases hs
  ·try rw [if_pos hk] at hs
   split at hs
   ·cases hs
   ·omega
theorem Z0w4 {r:Rul} (h:rulE r=0) {i:Nat} (hi:i < r.steps.length):(r.steps.getD i default).kind=1∨(r.steps.getD i default).kind=2∨(r.steps.getD i default).kind=3∨(r.steps.getD i default).kind=4∨(r.steps.getD i default).kind=5:=by
 have hs:=Z0r1 h i hi
 unfold stpE at hs
 by_cases h1:(r.steps.getD i default).kind=1
 ·exact .inl h1
 by_cases h2:(r.steps.getD i default).kind=2
 ·exact .inr (.inl h2)
 by_cases h3:(r.steps.getD i default).kind=3∨(r.steps.getD i default).kind=4∨(r.steps.getD i default).kind=5
 ·exact .inr (.inr h3)
 ·rw [if_neg h1,if_neg h2,if_neg h3] at hs;cases hs
theorem stp_1 {s:Sco} {sc:List Scene} {v:Vw} {c:Cause} {x:Stp} {i:Int} (h:x.kind=1):stpW s sc v c x i=setW s v x c i∧stpM c x i = []∧stpN c x = []:=
 ⟨by unfold stpW;rw [if_pos h],by unfold stpM;rw [if_neg (by omega)],by unfold stpN;rw [if_neg (by omega)]⟩
theorem stp_2 {s:Sco} {sc:List Scene} {v:Vw} {c:Cause} {x:Stp} {i:Int} (h:x.kind=2):stpW s sc v c x i=callW s v x c i∧stpM c x i = []∧stpN c x = []:=
 ⟨by unfold stpW;rw [if_neg (by omega),if_pos h],by unfold stpM;rw [if_neg (by omega)],by unfold stpN;rw [if_neg (by omega)]⟩
theorem stp_3 {s:Sco} {sc:List Scene} {v:Vw} {c:Cause} {x:Stp} {i:Int} (h:x.kind=3):stpW s sc v c x i=sceW s sc x c i∧stpM c x i = []∧stpN c x = []:=
 ⟨by unfold stpW;rw [if_neg (by omega),if_neg (by omega),if_pos h],by unfold stpM;rw [if_neg (by omega)],by unfold stpN;rw [if_neg (by omega)]⟩
theorem stp_4 {s:Sco} {sc:List Scene} {v:Vw} {c:Cause} {x:Stp} {i:Int} (h:x.kind=4):stpW s sc v c x i = []∧stpM c x i = [⟨noKey,⟨4,0,x.name⟩,c,i⟩]∧stpN c x = []:=
 ⟨by unfold stpW;rw [if_neg (by omega),if_neg (by omega),if_neg (by omega)],by unfold stpM;rw [if_pos h],by unfold stpN;rw [if_neg (by omega)]⟩
theorem stp_5 {s:Sco} {sc:List Scene} {v:Vw} {c:Cause} {x:Stp} {i:Int} (h:x.kind=5):stpW s sc v c x i = []∧stpM c x i = []∧stpN c x = [c.name ++ (⟨#[58,32]⟩:ByteArray) ++ x.name]:=
 ⟨by unfold stpW;rw [if_neg (by omega),if_neg (by omega),if_neg (by omega)],by unfold stpM;rw [if_neg (by omega)],by unfold stpN;rw [if_pos h]⟩
end Go.Abs
namespace Go.Abs
open Go.Proofs
set_option maxRecDepth 10000
def runH (s:Sco) (sc:List Scene) (v:Vw) (o:Out):List (Nat × AObj):=[(40,runB s sc v 501 502 503 504),(501,rowL 10 cWrite o.writes),(502,rowL 10 cWrite o.modes),(503,rowL 1 cstr o.ran),(504,rowL 1 cstr o.notes)]
def runJ (s:Sco) (sc:List Scene) (v:Vw) (o:Out):List (Nat × AObj):=[(40,runB s sc v 511 512 513 514),(511,rowL 10 cWrite o.writes),(512,rowL 10 cWrite o.modes),(513,rowL 1 cstr o.ran),(514,rowL 1 cstr o.notes)]
def wrD:PV→Write
 | .agg [.val (.int _ d),.val (.string c),.val (.string a),.val (.int _ k),.val (.int _ n),.val (.string s),.val (.int _ e),.val (.string f),.val (.int _ g),.val (.int _ o)]=>⟨⟨d,c,a⟩,⟨k,n,s⟩,⟨e,f,g⟩,o⟩
 |_=>default
def ordG:List PV→Int:=fun xs=>cmpW (wrD (xs.getD 0 .cap0)) (wrD (xs.getD 1 .cap0))
theorem Z024 (a b:Write):AC Tryz.prog 30 [.pv (.agg (cWrite a)),.pv (.agg (cWrite b))] [] (.pv (vint (ordG [.agg (cWrite a),.agg (cWrite b)]))) []:=Z05g a b
theorem Z06i (l:List Write) (hl:l.length≤1048576):AC Tryz.prog 29 [.own 900000,.fn 30 []] [(900000,rowL 10 cWrite l)] (.pv (.tup [])) [(900000,rowL 10 cWrite (isortR ordW l))]:=
 Z06c 30 Tryz.call30 ordG ordW Z0xe (fun a b=>Z0bj a b) Z024 l hl
theorem Z0tf {α:Type} {l:List α} (h:l.length≤1048576):smallL l:=h
set_option maxHeartbeats 4000000 in
theorem Z05b (s:Sco) (sc:List Scene) (v:Vw) (p:Hap) (l:List Rul) (hs:smallS s) (hsc:smallL sc) (hsi:∀ i,i < sc.length→smallL (sc.getD i default).items) (hv:smallV2 v) (hp:smallHp p) :
  AC Tryz.prog 11 [.pv (.agg (cSco s)),.pv (roL 2 cSce sc),.pv (roL 15 cRul l),.pv (.agg (cVw v)),.pv (.agg (cHap p))] [] (.pv (.tup [.agg (cOut (runR s sc v p l)),vint (runE s l)])) []:=by
 refine AC.of_awp (T:=T) T_ok hm Tryz.call11 Tryz.func11 rfl rfl rfl ?_
 conv=>whnf
 repeat (any_goals (first
  |(refine⟨fun(h:(_:Bool)=true)=>?_,fun(h:(_:Bool)=false)=>?_⟩<;>(try simp only [Q0,Q1,Q2,Q3,Q4,Q5,Q6,Q7,Q8,reduceCtorEq] at h)<;>(conv=>whnf))
  |(refine .inl ⟨_,Z06y s hs,?_⟩;conv=>whnf)
  |(refine .inl ⟨_,Z071 s l hs,?_⟩;conv=>whnf)
  |(refine And.intro (by(try simp only [Int.toNat_natCast]);omega) ?_;conv=>whnf)
  |(refine And.intro (show(_:Bool)=true from by kernel_rfl) ?_;conv=>whnf)
  |(refine .inl ⟨wrap64 (by omega),?_⟩;conv=>whnf)))
 ·rw [runR,if_neg (by rw [runE,if_pos h];exact h),runE,if_pos h]
  refine⟨?_,?_⟩<;>(conv=>whnf)
  ·repeat' (first|exact PSub.rfl|exact PSub.nil_ro _ _|exact PSub.lit_sb rfl|exact trivial|exact Z085|refine PSub.agg ?_|refine PSub.ro rfl ?_|refine Z084 ?_ ?_|refine And.intro ?_ ?_)
  ·repeat' (first|exact PSub.rfl|exact PSub.nil_ro _ _|exact PSub.lit_sb rfl|exact trivial|exact Z085|refine PSub.agg ?_|refine PSub.ro rfl ?_|refine Z084 ?_ ?_|refine And.intro ?_ ?_)
 ·have e0:runE s l=(rulesE s l).2:=by rw [runE,if_neg (fun x=>x (by assumption))]
  rw [runR,if_neg (by rw [e0];exact h),e0]
  refine⟨?_,?_⟩<;>(conv=>whnf)
  ·repeat' (first|exact PSub.rfl|exact PSub.nil_ro _ _|exact PSub.lit_sb rfl|exact trivial|exact Z085|refine PSub.agg ?_|refine PSub.ro rfl ?_|refine Z084 ?_ ?_|refine And.intro ?_ ?_)
  ·repeat' (first|exact PSub.rfl|exact PSub.nil_ro _ _|exact PSub.lit_sb rfl|exact trivial|exact Z085|refine PSub.agg ?_|refine PSub.ro rfl ?_|refine Z084 ?_ ?_|refine And.intro ?_ ?_)
 have he:runE s l=0:=Z0rf (by assumption) h
 have ok:=(Z0rd s l).1 h
 have h40:=ok.1
 have hok:∀ k,k < l.length→ruleE s (l.getD k default)=0:=fun k hk=>ok.2.1 _ (by rw [Z0g2 _ _ hk];exact List.getElem_mem _)
 rw [runR,if_pos he,Z0rh,he]
 have hlen:=Z0pf (s:=s) (sc:=sc) (v:=v) (h:=p) ok.2.1
 have hno:=fun k hk=>Z0pg (s:=s) (sc:=sc) (v:=v) (h:=p) (l:=l) (k:=k) hk
 have hyes:=fun k hk=>Z0ph (s:=s) (sc:=sc) (v:=v) (h:=p) (l:=l) (k:=k) hk
 have h00:rawK s sc v p l 0=noOut:=by unfold rawK rawO ranL allW allM allN;simp;rfl
 generalize rawK s sc v p l=R at *
 refine loop_k (ι:=Nat) [8,9,10,15,41,42] [8,9,10] (fun k=>k≤l.length) (fun k=>l.length - k) 0 (fun k=>[(43,.pv (vint k))]) (fun k=>runH s sc v (R k)) [] (Nat.zero_le _) ?_ (fun k hk=>?_)
 ·rw [h00]
  (repeat' (first|exact PSub.rfl|exact rfl|exact PSubs.rfl|exact trivial|exact PSub.lit_sb rfl|refine And.intro ?_ ?_))
  all_goals (intro j hj;exact absurd hj (by simp [noOut]))
 have hl0:=hlen k hk
 have hlw:=hl0.w
 have hlm:=hl0.m
 have hlr:=hl0.r
 have hln:=hl0.n
 conv=>whnf
 refine⟨fun h=>?_,fun h=>?_⟩<;>(try simp only [Q0,Q1,Q2,Q3,Q4,Q5,Q6,Q7,Q8,reduceCtorEq] at h)<;>(conv=>whnf)
 ·have hk2:k < l.length:=by omega
  have hr:=hok k hk2
  have hlens:=Z0r0 (Z0r9 hr).1
  replace hno:=hno k hk2
  replace hyes:=hyes k hk2
  have hb:∀ b,ranB v p (l.getD k default)=b↔(anyB (l.getD k default) p && truE v (l.getD k default).cond)=b:=fun b=>Iff.rfl
  generalize R k=o at *
  repeat (any_goals (first
   |(refine⟨fun(h:(_:Bool)=true)=>?_,fun(h:(_:Bool)=false)=>?_⟩<;>(try simp only [Q0,Q1,Q2,Q3,Q4,Q5,Q6,Q7,Q8,reduceCtorEq] at h)<;>(conv=>whnf))
   |(refine .inl ⟨_,Z06k (l.getD k default) p (Z0tf (by omega)) hp,?_⟩;conv=>whnf)
   |(refine .inl ⟨_,Z00v v (l.getD k default).cond hv,?_⟩;conv=>whnf)
   |(refine .inl ⟨_,Z05c (l.getD k default).steps (Z0tf (by omega)),?_⟩;conv=>whnf)
   |(refine And.intro (by(try simp only [Int.toNat_natCast]);omega) ?_;conv=>whnf)
   |(refine And.intro (show(_:Bool)=true from by kernel_rfl) ?_;conv=>whnf)
   |(refine .inl ⟨wrap64 (by omega),?_⟩;conv=>whnf)))
  ·refine⟨k+1,[],by omega,by omega,?_⟩
   rw [hno ((hb false).2 (by rw [h];rfl))]
   (repeat' (first|exact PSub.rfl|exact rfl|exact PSubs.rfl|exact trivial|exact PSub.lit_sb rfl|refine And.intro ?_ ?_))
   all_goals (intro j hj;exact PSubs.rfl)
  ·refine⟨k+1,[],by omega,by omega,?_⟩
   rw [hno ((hb false).2 (by rw [h,Bool.and_false]))]
   (repeat' (first|exact PSub.rfl|exact rfl|exact PSubs.rfl|exact trivial|exact PSub.lit_sb rfl|refine And.intro ?_ ?_))
   all_goals (intro j hj;exact PSubs.rfl)
  replace hyes:=hyes ((hb true).2 (by rw [h,Bool.and_true];assumption))
  have hnl:(l.getD k default).steps.length≤8:=hlens.2
  have hj0:rawJ s sc v o (l.getD k default) 0=⟨o.writes,o.modes,o.ran ++ [(l.getD k default).name],o.notes⟩:=by simp [rawJ,rulW,rulM,rulN]
  refine loop_k (ι:=Nat) [8,9,10,15,17,41,42,43,73,74] [8,9,10,17] (fun j=>j≤(l.getD k default).steps.length) (fun j=>(l.getD k default).steps.length - j) 0 (fun j=>[(75,.pv (vint j))]) (fun j=>runJ s sc v (rawJ s sc v o (l.getD k default) j)) [(511,501),(512,502),(513,67),(514,504)] (Nat.zero_le _) ?_ (fun j hj=>?_)
  ·rw [hj0]
   conv=>whnf
   (repeat' (first|exact PSub.rfl|exact rfl|exact PSubs.rfl|exact trivial|exact PSub.lit_sb rfl|refine And.intro ?_ ?_))
   all_goals first
    |(intro j hj;exact PSubs.rfl)
    |(simp;done)
    |skip
   all_goals
    refine Z0qz (fun i hi=>by simp only [if_pos hi];exact PSubs.rfl) (by simp only [if_neg (Nat.lt_irrefl _),Nat.sub_self];exact PSubs.rfl)
  have hL:=Z0pd (sc:=sc) (v:=v) (j:=j) hl0 hr hj
  have hLw:=hL.w
  have hLm:=hL.m
  have hLn:=hL.n
  conv=>whnf
  refine⟨fun h=>?_,fun h=>?_⟩<;>(try simp only [Q0,Q1,Q2,Q3,Q4,Q5,Q6,Q7,Q8,reduceCtorEq] at h)<;>(conv=>whnf)
  ·have hj2:j < (l.getD k default).steps.length:=by omega
   have hx:=(Z0r9 hr).2.2.2 j hj2
   have hz:=Z0wy (Z0r9 hr).1 hj2
   have hkk:=Z0w4 (Z0r9 hr).1 hj2
   have s1:=Z0r8 s sc v (l.getD k default) j
   have s2:=Z0r3 (l.getD k default) j
   have s3:=Z0r5 (l.getD k default) j
   repeat (any_goals (first
    |(refine⟨fun(h:(_:Bool)=true)=>?_,fun(h:(_:Bool)=false)=>?_⟩<;>(try simp only [Q0,Q1,Q2,Q3,Q4,Q5,Q6,Q7,Q8,reduceCtorEq] at h)<;>(conv=>whnf))
    |(refine And.intro (by(try simp only [Int.toNat_natCast]);omega) ?_;conv=>whnf)
    |(refine And.intro (show(_:Bool)=true from by kernel_rfl) ?_;conv=>whnf)
    |(refine .inl ⟨wrap64 (by omega),?_⟩;conv=>whnf)))
   rcases hkk with hk1|hk1|hk1|hk1|hk1
   ·have hW:=stp_1 (s:=s) (sc:=sc) (v:=v) (c:=cauR (l.getD k default)) (i:=(j:Int)) hk1
    rw [if_pos (show((l.getD k default).steps.getD ((j:Int)).toNat default).kind=1 from hk1)]
    conv=>whnf
    refine⟨_,[(900000,40),(900001,511),(900002,512),(900003,513),(900004,514)],[(1,701)],_,_,_,Z05i s sc v (rawJ s sc v o (l.getD k default) j) ((l.getD k default).steps.getD j default) (cauR (l.getD k default)) j hs hv (by omega),(by kernel_rfl),rfl,?_⟩
    conv=>whnf
    have eJ:rawJ s sc v o (l.getD k default) (j+1)=⟨(rawJ s sc v o (l.getD k default) j).writes ++ setW s v ((l.getD k default).steps.getD j default) (cauR (l.getD k default)) j,(rawJ s sc v o (l.getD k default) j).modes,(rawJ s sc v o (l.getD k default) j).ran,(rawJ s sc v o (l.getD k default) j).notes⟩:=by
     unfold rawJ
     rw [s1,s2,s3,hW.1,hW.2.1,hW.2.2]
     simp only [List.append_assoc,List.append_nil]
    repeat (any_goals (first
     |(refine⟨fun(h:(_:Bool)=true)=>?_,fun(h:(_:Bool)=false)=>?_⟩<;>(try simp only [Q0,Q1,Q2,Q3,Q4,Q5,Q6,Q7,Q8,reduceCtorEq] at h)<;>(conv=>whnf))
     |(refine And.intro (by(try simp only [Int.toNat_natCast]);omega) ?_;conv=>whnf)
     |(refine And.intro (show(_:Bool)=true from by kernel_rfl) ?_;conv=>whnf)
     |(refine .inl ⟨wrap64 (by omega),?_⟩;conv=>whnf)))
    refine⟨j+1,[(511,701)],by omega,by omega,?_⟩
    rw [eJ]
    conv=>whnf
    (repeat' (first|exact PSub.rfl|exact rfl|exact PSubs.rfl|exact trivial|exact PSub.lit_sb rfl|refine And.intro ?_ ?_))
    all_goals (intro j hj;exact PSubs.rfl)
   ·have hW:=stp_2 (s:=s) (sc:=sc) (v:=v) (c:=cauR (l.getD k default)) (i:=(j:Int)) hk1
    rw [if_neg (show ¬ ((l.getD k default).steps.getD ((j:Int)).toNat default).kind=1 from by rw [show((l.getD k default).steps.getD ((j:Int)).toNat default).kind=_ from hk1];decide)]
    rw [if_pos (show((l.getD k default).steps.getD ((j:Int)).toNat default).kind=2 from hk1)]
    obtain⟨kc,hkc⟩:=clu_of hk1 hx
    conv=>whnf
    refine⟨_,[(900000,40),(900001,511),(900002,512),(900003,513),(900004,514)],[(1,701)],_,_,_,Z05d s sc v (rawJ s sc v o (l.getD k default) j) ((l.getD k default).steps.getD j default) (cauR (l.getD k default)) j kc hs hv hkc (by have:=hkc.chk.attrs;omega),(by kernel_rfl),rfl,?_⟩
    conv=>whnf
    have eJ:rawJ s sc v o (l.getD k default) (j+1)=⟨(rawJ s sc v o (l.getD k default) j).writes ++ callW s v ((l.getD k default).steps.getD j default) (cauR (l.getD k default)) j,(rawJ s sc v o (l.getD k default) j).modes,(rawJ s sc v o (l.getD k default) j).ran,(rawJ s sc v o (l.getD k default) j).notes⟩:=by
     unfold rawJ
     rw [s1,s2,s3,hW.1,hW.2.1,hW.2.2]
     simp only [List.append_assoc,List.append_nil]
    repeat (any_goals (first
     |(refine⟨fun(h:(_:Bool)=true)=>?_,fun(h:(_:Bool)=false)=>?_⟩<;>(try simp only [Q0,Q1,Q2,Q3,Q4,Q5,Q6,Q7,Q8,reduceCtorEq] at h)<;>(conv=>whnf))
     |(refine And.intro (by(try simp only [Int.toNat_natCast]);omega) ?_;conv=>whnf)
     |(refine And.intro (show(_:Bool)=true from by kernel_rfl) ?_;conv=>whnf)
     |(refine .inl ⟨wrap64 (by omega),?_⟩;conv=>whnf)))
    refine⟨j+1,[(511,701)],by omega,by omega,?_⟩
    rw [eJ]
    conv=>whnf
    (repeat' (first|exact PSub.rfl|exact rfl|exact PSubs.rfl|exact trivial|exact PSub.lit_sb rfl|refine And.intro ?_ ?_))
    all_goals (intro j hj;exact PSubs.rfl)
   ·have hW:=stp_3 (s:=s) (sc:=sc) (v:=v) (c:=cauR (l.getD k default)) (i:=(j:Int)) hk1
    rw [if_neg (show ¬ ((l.getD k default).steps.getD ((j:Int)).toNat default).kind=1 from by rw [show((l.getD k default).steps.getD ((j:Int)).toNat default).kind=_ from hk1];decide)]
    rw [if_neg (show ¬ ((l.getD k default).steps.getD ((j:Int)).toNat default).kind=2 from by rw [show((l.getD k default).steps.getD ((j:Int)).toNat default).kind=_ from hk1];decide)]
    rw [if_pos (show((l.getD k default).steps.getD ((j:Int)).toNat default).kind=3 from hk1)]
    conv=>whnf
    refine⟨_,[(900000,40),(900001,511),(900002,512),(900003,513),(900004,514)],[(1,701)],_,_,_,Z05j s sc v (rawJ s sc v o (l.getD k default) j) ((l.getD k default).steps.getD j default) (cauR (l.getD k default)) j hs hsc hsi (by have:=Z0sj s sc ((l.getD k default).steps.getD j default) (cauR (l.getD k default)) j;omega),(by kernel_rfl),rfl,?_⟩
    conv=>whnf
    have eJ:rawJ s sc v o (l.getD k default) (j+1)=⟨(rawJ s sc v o (l.getD k default) j).writes ++ sceW s sc ((l.getD k default).steps.getD j default) (cauR (l.getD k default)) j,(rawJ s sc v o (l.getD k default) j).modes,(rawJ s sc v o (l.getD k default) j).ran,(rawJ s sc v o (l.getD k default) j).notes⟩:=by
     unfold rawJ
     rw [s1,s2,s3,hW.1,hW.2.1,hW.2.2]
     simp only [List.append_assoc,List.append_nil]
    repeat (any_goals (first
     |(refine⟨fun(h:(_:Bool)=true)=>?_,fun(h:(_:Bool)=false)=>?_⟩<;>(try simp only [Q0,Q1,Q2,Q3,Q4,Q5,Q6,Q7,Q8,reduceCtorEq] at h)<;>(conv=>whnf))
     |(refine And.intro (by(try simp only [Int.toNat_natCast]);omega) ?_;conv=>whnf)
     |(refine And.intro (show(_:Bool)=true from by kernel_rfl) ?_;conv=>whnf)
     |(refine .inl ⟨wrap64 (by omega),?_⟩;conv=>whnf)))
    refine⟨j+1,[(511,701)],by omega,by omega,?_⟩
    rw [eJ]
    conv=>whnf
    (repeat' (first|exact PSub.rfl|exact rfl|exact PSubs.rfl|exact trivial|exact PSub.lit_sb rfl|refine And.intro ?_ ?_))
    all_goals (intro j hj;exact PSubs.rfl)
   ·have hW:=stp_4 (s:=s) (sc:=sc) (v:=v) (c:=cauR (l.getD k default)) (i:=(j:Int)) hk1
    rw [if_neg (show ¬ ((l.getD k default).steps.getD ((j:Int)).toNat default).kind=1 from by rw [show((l.getD k default).steps.getD ((j:Int)).toNat default).kind=_ from hk1];decide)]
    rw [if_neg (show ¬ ((l.getD k default).steps.getD ((j:Int)).toNat default).kind=2 from by rw [show((l.getD k default).steps.getD ((j:Int)).toNat default).kind=_ from hk1];decide)]
    rw [if_neg (show ¬ ((l.getD k default).steps.getD ((j:Int)).toNat default).kind=3 from by rw [show((l.getD k default).steps.getD ((j:Int)).toNat default).kind=_ from hk1];decide)]
    rw [if_pos (show((l.getD k default).steps.getD ((j:Int)).toNat default).kind=4 from hk1)]
    conv=>whnf
    refine⟨_,[(900000,40),(900001,511),(900002,512),(900003,513),(900004,514)],[(1,701)],_,_,_,Z05k s sc v (rawJ s sc v o (l.getD k default) j) ((l.getD k default).steps.getD j default) (cauR (l.getD k default)) j (by omega),(by kernel_rfl),rfl,?_⟩
    conv=>whnf
    have eJ:rawJ s sc v o (l.getD k default) (j+1)=⟨(rawJ s sc v o (l.getD k default) j).writes,(rawJ s sc v o (l.getD k default) j).modes ++ [⟨noKey,⟨4,0,((l.getD k default).steps.getD j default).name⟩,cauR (l.getD k default),j⟩],(rawJ s sc v o (l.getD k default) j).ran,(rawJ s sc v o (l.getD k default) j).notes⟩:=by
     unfold rawJ
     rw [s1,s2,s3,hW.1,hW.2.1,hW.2.2]
     simp only [List.append_assoc,List.append_nil]
    repeat (any_goals (first
     |(refine⟨fun(h:(_:Bool)=true)=>?_,fun(h:(_:Bool)=false)=>?_⟩<;>(try simp only [Q0,Q1,Q2,Q3,Q4,Q5,Q6,Q7,Q8,reduceCtorEq] at h)<;>(conv=>whnf))
     |(refine And.intro (by(try simp only [Int.toNat_natCast]);omega) ?_;conv=>whnf)
     |(refine And.intro (show(_:Bool)=true from by kernel_rfl) ?_;conv=>whnf)
     |(refine .inl ⟨wrap64 (by omega),?_⟩;conv=>whnf)))
    refine⟨j+1,[(512,701)],by omega,by omega,?_⟩
    rw [eJ]
    conv=>whnf
    (repeat' (first|exact PSub.rfl|exact rfl|exact PSubs.rfl|exact trivial|exact PSub.lit_sb rfl|refine And.intro ?_ ?_))
    all_goals (intro j hj;exact PSubs.rfl)
   ·have hW:=stp_5 (s:=s) (sc:=sc) (v:=v) (c:=cauR (l.getD k default)) (i:=(j:Int)) hk1
    rw [if_neg (show ¬ ((l.getD k default).steps.getD ((j:Int)).toNat default).kind=1 from by rw [show((l.getD k default).steps.getD ((j:Int)).toNat default).kind=_ from hk1];decide)]
    rw [if_neg (show ¬ ((l.getD k default).steps.getD ((j:Int)).toNat default).kind=2 from by rw [show((l.getD k default).steps.getD ((j:Int)).toNat default).kind=_ from hk1];decide)]
    rw [if_neg (show ¬ ((l.getD k default).steps.getD ((j:Int)).toNat default).kind=3 from by rw [show((l.getD k default).steps.getD ((j:Int)).toNat default).kind=_ from hk1];decide)]
    rw [if_neg (show ¬ ((l.getD k default).steps.getD ((j:Int)).toNat default).kind=4 from by rw [show((l.getD k default).steps.getD ((j:Int)).toNat default).kind=_ from hk1];decide)]
    conv=>whnf
    refine⟨_,[(900000,40),(900001,511),(900002,512),(900003,513),(900004,514)],[(1,701)],_,_,_,Z05f s sc v (rawJ s sc v o (l.getD k default) j) ((l.getD k default).steps.getD j default) (cauR (l.getD k default)) j (by omega) (by show(l.getD k default).name.size≤_;have:=hz.1;omega) (by have:=hz.2 hk1;omega),(by kernel_rfl),rfl,?_⟩
    conv=>whnf
    have eJ:rawJ s sc v o (l.getD k default) (j+1)=⟨(rawJ s sc v o (l.getD k default) j).writes,(rawJ s sc v o (l.getD k default) j).modes,(rawJ s sc v o (l.getD k default) j).ran,(rawJ s sc v o (l.getD k default) j).notes ++ [(cauR (l.getD k default)).name ++ (⟨#[58,32]⟩:ByteArray) ++ ((l.getD k default).steps.getD j default).name]⟩:=by
     unfold rawJ
     rw [s1,s2,s3,hW.1,hW.2.1,hW.2.2]
     simp only [List.append_assoc,List.append_nil]
    repeat (any_goals (first
     |(refine⟨fun(h:(_:Bool)=true)=>?_,fun(h:(_:Bool)=false)=>?_⟩<;>(try simp only [Q0,Q1,Q2,Q3,Q4,Q5,Q6,Q7,Q8,reduceCtorEq] at h)<;>(conv=>whnf))
     |(refine And.intro (by(try simp only [Int.toNat_natCast]);omega) ?_;conv=>whnf)
     |(refine And.intro (show(_:Bool)=true from by kernel_rfl) ?_;conv=>whnf)
     |(refine .inl ⟨wrap64 (by omega),?_⟩;conv=>whnf)))
    refine⟨j+1,[(514,701)],by omega,by omega,?_⟩
    rw [eJ]
    conv=>whnf
    (repeat' (first|exact PSub.rfl|exact rfl|exact PSubs.rfl|exact trivial|exact PSub.lit_sb rfl|refine And.intro ?_ ?_))
    all_goals (intro j hj;exact PSubs.rfl)
  ·have e:j=(l.getD k default).steps.length:=by omega
   rw [←e] at hyes
   repeat (any_goals (first
    |(refine⟨fun(h:(_:Bool)=true)=>?_,fun(h:(_:Bool)=false)=>?_⟩<;>(try simp only [Q0,Q1,Q2,Q3,Q4,Q5,Q6,Q7,Q8,reduceCtorEq] at h)<;>(conv=>whnf))
    |(refine And.intro (by(try simp only [Int.toNat_natCast]);omega) ?_;conv=>whnf)
    |(refine And.intro (show(_:Bool)=true from by kernel_rfl) ?_;conv=>whnf)
    |(refine .inl ⟨wrap64 (by omega),?_⟩;conv=>whnf)))
   refine⟨k+1,[(501,511),(502,512),(503,513),(504,514)],by omega,by omega,?_⟩
   rw [hyes]
   conv=>whnf
   (repeat' (first|exact PSub.rfl|exact rfl|exact PSubs.rfl|exact trivial|exact PSub.lit_sb rfl|refine And.intro ?_ ?_))
   all_goals (intro j hj;exact PSubs.rfl)
 ·have e:k=l.length:=by omega
  subst e
  generalize R l.length=o at *
  refine .inr (.inr (.inr (.inr ⟨[(900000,501)],[],_,_,_,Z06i o.writes (by omega),rfl,?_⟩)))
  conv=>whnf
  refine .inr (.inr (.inr (.inr ⟨[(900000,502)],[],_,_,_,Z06i o.modes (by omega),rfl,?_⟩)))
  conv=>whnf
  repeat (any_goals (first
   |(refine⟨fun(h:(_:Bool)=true)=>?_,fun(h:(_:Bool)=false)=>?_⟩<;>(try simp only [Q0,Q1,Q2,Q3,Q4,Q5,Q6,Q7,Q8,reduceCtorEq] at h)<;>(conv=>whnf))
   |(refine .inl ⟨_,Z01s o.ran (by omega),?_⟩;conv=>whnf)
   |(refine .inl ⟨_,Z01s o.notes (by omega),?_⟩;conv=>whnf)
   |(refine And.intro (by(try simp only [Int.toNat_natCast]);omega) ?_;conv=>whnf)
   |(refine And.intro (show(_:Bool)=true from by kernel_rfl) ?_;conv=>whnf)
   |(refine .inl ⟨wrap64 (by omega),?_⟩;conv=>whnf)))
  refine⟨?_,?_⟩<;>(conv=>whnf)
  all_goals trace_state
  ·repeat' (first|exact PSub.rfl|exact PSub.nil_ro _ _|exact PSub.lit_sb rfl|exact trivial|exact Z085|refine PSub.agg ?_|refine PSub.ro rfl ?_|refine Z084 ?_ ?_|refine And.intro ?_ ?_)
  ·repeat' (first|exact PSub.rfl|exact PSub.nil_ro _ _|exact PSub.lit_sb rfl|exact trivial|exact Z085|refine PSub.agg ?_|refine PSub.ro rfl ?_|refine Z084 ?_ ?_|refine And.intro ?_ ?_)
end Go.Abs
namespace Go.Abs
open Go.Proofs Go.RowKit
set_option maxRecDepth 10000
structure RuC where
 s:Sco
 sc:List Scene
 l:List Rul
 v:Vw
 h:Hap
def cRuC (c:RuC):List PV:=cSco c.s ++ [roL 2 cSce c.sc,roL 15 cRul c.l] ++ cVw c.v ++ cHap c.h
def smallSc (l:List Scene):Prop:=smallL l∧∀ i,i < l.length→smallL (l.getD i default).items
def smallRl (l:List Rul):Prop:=smallL l∧∀ i,i < l.length→goodRulO (l.getD i default)
structure smallRuC (c:RuC):Prop where
 s:smallS c.s
 sc:smallSc c.sc
 l:smallRl c.l
 v:smallV2 c.v
 h:smallHp c.h
structure smallOut (o:Out):Prop where
 w:smallL o.writes
 m:smallL o.modes
 r:smallL o.ran
 n:smallL o.notes
section
variable {H:Type} {enc:TypeId × Value→H} {w:World} {bulk:DataW H→Nat}
end
end Go.Abs
namespace Go.Abs
open Go.Proofs
structure SameV (v w:Vw):Prop where
 items:∀ k,findI v.items k=findI w.items k
 mode:v.mode=w.mode
 minute:v.minute=w.minute
 home:∀ r,homeB v.members r=homeB w.members r
theorem SameV.at {v w:Vw} (h:SameV v w) (k:Key):atV v.items k=atV w.items k:=by unfold atV;rw [h.items]
end Go.Abs
namespace Go.Abs
open Go.Proofs
set_option maxRecDepth 10000
def homeN:Hom:=⟨stdC,[⟨1,0,0,false,0,(⟨#[104,97,108,108]⟩:ByteArray),[(⟨#[108,101,118,101,108]⟩:ByteArray)]⟩]⟩
def scoN:Sco:=⟨homeN,[(⟨#[104,111,109,101]⟩:ByteArray),(⟨#[110,105,103,104,116]⟩:ByteArray)],[]⟩
def keyN:Key:=⟨1,(⟨#[108,101,118,101,108]⟩:ByteArray),(⟨#[108,101,118,101,108]⟩:ByteArray)⟩
def rulN1:Rul:=⟨(⟨#[110,105,103,104,116]⟩:ByteArray),10,[⟨5,noKey,noEvt,⟨#[]⟩,0,0⟩],.mk 1 0 0 ⟨#[]⟩ ⟨1,1,⟨#[]⟩⟩ noKey [],[⟨1,keyN,⟨#[]⟩,.mk 1 0 0 ⟨#[]⟩ ⟨2,150,⟨#[]⟩⟩ noKey []⟩,⟨4,noKey,(⟨#[110,105,103,104,116]⟩:ByteArray),noEx⟩]⟩
def vwN:Vw:=⟨[],⟨#[]⟩,0,[]⟩
def hapN (b:Bool):Hap:=⟨[],[],-1,-1,⟨#[]⟩,b,[]⟩
def nightC:RuC:=⟨scoN,[],[rulN1],vwN,hapN true⟩
def outN:Out:=⟨[⟨keyN,⟨2,100,⟨#[]⟩⟩,⟨2,(⟨#[110,105,103,104,116]⟩:ByteArray),10⟩,0⟩],[⟨noKey,⟨4,0,(⟨#[110,105,103,104,116]⟩:ByteArray)⟩,⟨2,(⟨#[110,105,103,104,116]⟩:ByteArray),10⟩,1⟩],[(⟨#[110,105,103,104,116]⟩:ByteArray)],[]⟩
theorem nn1:runE scoN [rulN1]=0:=by kernel_rfl
theorem nn2:runR scoN [] vwN (hapN true) [rulN1]=outN:=by kernel_rfl
theorem nn3:runR scoN [] vwN (hapN false) [rulN1]=noOut:=by kernel_rfl
theorem nn4:modeT outN.modes (⟨#[104,111,109,101]⟩:ByteArray)=(⟨#[110,105,103,104,116]⟩:ByteArray):=by kernel_rfl
theorem nn5:modeT noOut.modes (⟨#[104,111,109,101]⟩:ByteArray)=(⟨#[104,111,109,101]⟩:ByteArray):=by kernel_rfl
theorem Z0tg:smallS scoN:=by
 refine⟨⟨⟨sl rfl,Z0te⟩,sl rfl,fun i=>?_⟩,sl rfl,sl rfl⟩
 cases i with
 |zero=>exact⟨sl rfl,by decide,by decide⟩
 |succ i=>
  have:scoN.home.devices.getD (i+1) default=default:=rfl
  rw [this];exact⟨Nat.zero_le _,by decide,by decide⟩
theorem Z0tc (b:Bool):smallHp (hapN b):=⟨sl rfl,sl rfl,sl rfl⟩
theorem Z0ti:smallV2 vwN:=⟨sl rfl,sl rfl⟩
theorem Z01p:AC Tryz.prog 23 [] [] (.pv (.agg (cRuC nightC))) []:=by
 refine AC.of_awp (T:=T) T_ok hm Tryz.call23 Tryz.func23 rfl rfl rfl ?_
 conv=>whnf
 repeat (any_goals (first
  |(refine⟨fun(h:(_:Bool)=true)=>?_,fun(h:(_:Bool)=false)=>?_⟩<;>(try simp only [Q0,Q1,Q2,Q3,Q4,Q5,Q6,Q7,Q8,reduceCtorEq] at h)<;>(conv=>whnf))
  |(refine .inl ⟨_,AC.sub1 (Z03l true) (PSub.lit_sb rfl),?_⟩;conv=>whnf)
  |(refine .inl ⟨_,Z03m ⟨2,150,⟨#[]⟩⟩,?_⟩;conv=>whnf)
  |(refine .inl ⟨_,Z008,?_⟩;conv=>whnf)
  |(refine And.intro (by(try simp only [Int.toNat_natCast]);omega) ?_;conv=>whnf)
  |(refine And.intro (show(_:Bool)=true from by kernel_rfl) ?_;conv=>whnf)
  |(refine .inl ⟨wrap64 (by omega),?_⟩;conv=>whnf)))
 repeat' (first|exact PSub.rfl|exact PSub.nil_ro _ _|exact PSub.lit_sb rfl|exact trivial|exact Z085|refine PSub.agg ?_|refine PSub.ro rfl ?_|refine Z084 ?_ ?_|refine And.intro ?_ ?_)
theorem AC.sub5 {P:Program} {f:FuncId} {p q p2 q2 p3 q3 p4 q4 p5 q5:PV} {os os':Upd} {res:AV} (h:AC P f [.pv q,.pv q2,.pv q3,.pv q4,.pv q5] os res os') (h1:PSub p q) (h2:PSub p2 q2) (h3:PSub p3 q3) (h4:PSub p4 q4) (h5:PSub p5 q5):AC P f [.pv p,.pv p2,.pv p3,.pv p4,.pv p5] os res os':=
 AC.sub (qs:=[q,q2,q3,q4,q5]) (ps:=[p,p2,p3,p4,p5]) h ⟨h1,h2,h3,h4,h5,trivial⟩
theorem Z01o:AC Tryz.prog 10 [] [] (.pv (vbool true)) []:=by
 have c1:=Z05b scoN [] vwN (hapN true) [rulN1] Z0tg (sl rfl) (fun i hi=>absurd hi (by simp)) Z0ti (Z0tc true)
 have c2:=Z05b scoN [] vwN (hapN false) [rulN1] Z0tg (sl rfl) (fun i hi=>absurd hi (by simp)) Z0ti (Z0tc false)
 rw [nn2,nn1] at c1
 rw [nn3,nn1] at c2
 have c3:=Z05a outN (⟨#[104,111,109,101]⟩:ByteArray) (sl rfl)
 have c4:=Z05a noOut (⟨#[104,111,109,101]⟩:ByteArray) (sl rfl)
 rw [nn4] at c3
 rw [nn5] at c4
 have c5:=Z04w noOut noOut ⟨by decide,by decide,by decide,by decide⟩
 refine AC.of_awp (T:=T) T_ok hm Tryz.call10 Tryz.func10 rfl rfl rfl ?_
 conv=>whnf
 refine .inl ⟨_,Z01p,?_⟩
 conv=>whnf
 refine .inl ⟨_,AC.sub5 (c1) (by repeat' (first|exact PSub.rfl|exact PSub.nil_ro _ _|exact PSub.lit_sb rfl|exact trivial|exact Z085|refine PSub.agg ?_|refine PSub.ro rfl ?_|refine Z084 ?_ ?_|refine And.intro ?_ ?_)) (by repeat' (first|exact PSub.rfl|exact PSub.nil_ro _ _|exact PSub.lit_sb rfl|exact trivial|exact Z085|refine PSub.agg ?_|refine PSub.ro rfl ?_|refine Z084 ?_ ?_|refine And.intro ?_ ?_)) (by repeat' (first|exact PSub.rfl|exact PSub.nil_ro _ _|exact PSub.lit_sb rfl|exact trivial|exact Z085|refine PSub.agg ?_|refine PSub.ro rfl ?_|refine Z084 ?_ ?_|refine And.intro ?_ ?_)) (by repeat' (first|exact PSub.rfl|exact PSub.nil_ro _ _|exact PSub.lit_sb rfl|exact trivial|exact Z085|refine PSub.agg ?_|refine PSub.ro rfl ?_|refine Z084 ?_ ?_|refine And.intro ?_ ?_)) (by repeat' (first|exact PSub.rfl|exact PSub.nil_ro _ _|exact PSub.lit_sb rfl|exact trivial|exact Z085|refine PSub.agg ?_|refine PSub.ro rfl ?_|refine Z084 ?_ ?_|refine And.intro ?_ ?_)),?_⟩
 conv=>whnf
 conv=>whnf
 refine .inl ⟨_,AC.sub5 (c2) (by repeat' (first|exact PSub.rfl|exact PSub.nil_ro _ _|exact PSub.lit_sb rfl|exact trivial|exact Z085|refine PSub.agg ?_|refine PSub.ro rfl ?_|refine Z084 ?_ ?_|refine And.intro ?_ ?_)) (by repeat' (first|exact PSub.rfl|exact PSub.nil_ro _ _|exact PSub.lit_sb rfl|exact trivial|exact Z085|refine PSub.agg ?_|refine PSub.ro rfl ?_|refine Z084 ?_ ?_|refine And.intro ?_ ?_)) (by repeat' (first|exact PSub.rfl|exact PSub.nil_ro _ _|exact PSub.lit_sb rfl|exact trivial|exact Z085|refine PSub.agg ?_|refine PSub.ro rfl ?_|refine Z084 ?_ ?_|refine And.intro ?_ ?_)) (by repeat' (first|exact PSub.rfl|exact PSub.nil_ro _ _|exact PSub.lit_sb rfl|exact trivial|exact Z085|refine PSub.agg ?_|refine PSub.ro rfl ?_|refine Z084 ?_ ?_|refine And.intro ?_ ?_)) (by repeat' (first|exact PSub.rfl|exact PSub.nil_ro _ _|exact PSub.lit_sb rfl|exact trivial|exact Z085|refine PSub.agg ?_|refine PSub.ro rfl ?_|refine Z084 ?_ ?_|refine And.intro ?_ ?_)),?_⟩
 conv=>whnf
 conv=>whnf
 repeat (any_goals (first
  |(refine⟨fun(h:(_:Bool)=true)=>?_,fun(h:(_:Bool)=false)=>?_⟩<;>(try simp only [Q0,Q1,Q2,Q3,Q4,Q5,Q6,Q7,Q8,reduceCtorEq] at h)<;>(conv=>whnf))
  |(refine .inl ⟨_,c3,?_⟩;conv=>whnf)
  |(refine .inl ⟨_,c4,?_⟩;conv=>whnf)
  |(refine .inl ⟨_,AC.sub2 (c5) (by repeat' (first|exact PSub.rfl|exact PSub.nil_ro _ _|exact PSub.lit_sb rfl|exact trivial|exact Z085|refine PSub.agg ?_|refine PSub.ro rfl ?_|refine Z084 ?_ ?_|refine And.intro ?_ ?_)) (by repeat' (first|exact PSub.rfl|exact PSub.nil_ro _ _|exact PSub.lit_sb rfl|exact trivial|exact Z085|refine PSub.agg ?_|refine PSub.ro rfl ?_|refine Z084 ?_ ?_|refine And.intro ?_ ?_)),?_⟩;conv=>whnf)
  |(refine And.intro (by(try simp only [Int.toNat_natCast]);omega) ?_;conv=>whnf)
  |(refine And.intro (show(_:Bool)=true from by kernel_rfl) ?_;conv=>whnf)
  |(refine .inl ⟨wrap64 (by omega),?_⟩;conv=>whnf)))
 all_goals first
  |exact PSub.sb (decide_eq_true rfl)
  |exact PSub.sb (by kernel_rfl)
  |exact PSub.lit_sb rfl
  |exact absurd trivial h
  |(exfalso;exact h (by kernel_rfl))
  |(exfalso;exact absurd (h.symm.trans (by kernel_rfl)) Bool.false_ne_true)
  |trace_state
end Go.Abs
