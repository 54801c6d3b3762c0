/- YtipbekclhmbclaaGreatDoorX05: walks and contracts. -/
import Derived.Test.YtipbekclhmbclaaGreatDoorX04
import Derived.Test.YtipbekclhmbclaaGreatDoorCards
import Derived.Test.YtipbekclhmbclaaGreatDoorTie
import Derived.WalkKit
import Derived.Shelf.SlSortCmp.Insertion

set_option linter.unusedVariables false
set_option linter.unusedSimpArgs false
set_option linter.unusedSectionVars false

namespace Go.Abs
open Go.Proofs
set_option maxRecDepth 10000
def lastC (l:List Clu):Nat→ByteArray→Option Clu
 |0,_=>none
 |k+1,s=>if (l.getD k default).name=s then some (l.getD k default) else lastC l k s
def cluLook (f:ByteArray→Option Clu):Value→Option PV
 | .string s=>(f s).map fun c=>.agg (cClu c)
 |_=>none
theorem Z00p (H:Hom) (hh:smallL H.clusters):AC Tryz.prog 81 [.pv (.agg (cHom H))] [] (.pv (.map (.one .str) (cluLook (lastC H.clusters H.clusters.length)))) []:=by
 have hl:H.clusters.length≤1048576:=hh
 refine AC.of_awp (T:=T) T_ok hm Tryz.call81 Tryz.func81 rfl rfl rfl ?_
 conv=>whnf
 refine loop_k (ι:=Nat) [3,8,9] [] (fun k=>k≤H.clusters.length∧True) (fun k=>H.clusters.length - k) 0 (fun k=>[(10,.pv (vint k))]) (fun k=>[(6,.map (.one .str) (cluLook (lastC H.clusters k)))]) [] ⟨Nat.zero_le _,trivial⟩ ?_ (fun k hk=>?_)
 ·(repeat' (first|exact PSub.rfl|exact rfl|exact PSubs.rfl|exact trivial|exact PSub.lit_sb rfl|refine And.intro ?_ ?_));all_goals (rintro _ ⟨s,rfl⟩;rfl)
 obtain⟨hkn,hinv⟩:=hk
 conv=>whnf
 repeat (any_goals (first
  |(refine⟨fun(h:(_:Bool)=true)=>?_,fun(h:(_:Bool)=false)=>?_⟩<;>(try simp only [Q0,Q1,Q2,Q3,Q4,Q5,Q6,Q7,Q8,reduceCtorEq] at h)<;>(conv=>whnf))
  |(refine And.intro (by(try simp only [Int.toNat_natCast]);omega) ?_;conv=>whnf)
  |(refine .inl ⟨wrap64 (by omega),?_⟩;conv=>whnf)))
 ·refine⟨k+1,[],⟨by omega,trivial⟩,by omega,?_⟩
  (repeat' (first|exact PSub.rfl|exact rfl|exact PSubs.rfl|exact trivial|exact PSub.lit_sb rfl|refine And.intro ?_ ?_))
  rintro _ ⟨s,rfl⟩
  simp only [Int.toNat_natCast,lookPut,cluLook,lastC,Value.string.injEq]
  by_cases e:s=(H.clusters.getD k default).name
  ·simp [e,-List.getD_eq_getElem?_getD];rfl
  ·rw [if_neg e,if_neg (fun x=>e x.symm)]
 ·have e:k=H.clusters.length:=by omega
  subst e
  exact PSub.rfl
def numB (d:Dev):Bool:=!(decide (d.id < 1) || decide (250 < d.id) || decide (d.vendor < 0) || decide (255 < d.vendor)) && (if d.sleepy then decide (4≤d.poll) && decide (d.poll≤3600) else decide (d.poll=0))
theorem Z00t (d:Dev):AC Tryz.prog 82 [.pv (.agg (cDev d))] [] (.pv (vbool (numB d))) []:=by
 refine AC.of_awp (T:=T) T_ok hm Tryz.call82 Tryz.func82 rfl rfl rfl ?_
 conv=>whnf
 repeat (any_goals (first
  |(refine⟨fun(h:(_:Bool)=true)=>?_,fun(h:(_:Bool)=false)=>?_⟩<;>(try simp only [Q0,Q1,Q2,Q3,Q4,Q5,Q6,Q7,Q8,reduceCtorEq] at h)<;>(conv=>whnf))))
 all_goals first|(refine PSub.sb ?_;rw [numB,Bool.eq_iff_iff];simp_all;done)|(refine PSub.lit_sb ?_;rw [numB,Bool.eq_iff_iff];simp_all;omega)|(refine PSub.lit_sb ?_;rw [numB,Bool.eq_iff_iff];simp_all;done)|skip
def firstC (l:List Clu) (s:ByteArray):Option Clu:=l.find? fun c=>decide (c.name=s)
def capStep (f:ByteArray→Option Clu) (d:Dev) (i:Nat) (n:Int):Int ⊕ Int:=
 match f (d.clusters.getD i default) with
 |none=>.inl 8
 |some c=>if idxOf d.clusters (d.clusters.getD i default) < i then .inl 9 else .inr (n+c.attrs.length)
def capE (f:ByteArray→Option Clu) (d:Dev):Int:=
 if d.clusters.length < 1∨4 < d.clusters.length then 3 else match forI (capStep f d) d.clusters.length 0 0 with
 | .inl e=>e
 | .inr n=>if 24 < n then 3 else 0
theorem Z00o (d:Dev) (f:ByteArray→Option Clu) (hf:∀ s c,f s=some c→smallK c):AC Tryz.prog 84 [.pv (.agg (cDev d)),.pv (.map (.one .str) (cluLook f))] [] (.pv (vint (capE f d))) []:=by
 refine AC.of_awp (T:=T) T_ok hm Tryz.call84 Tryz.func84 rfl rfl rfl ?_
 conv=>whnf
 refine⟨fun h=>?_,fun h=>?_⟩
 ·conv=>whnf
  simp only [decide_eq_true_eq] at h
  exact PSub.int (by rw [capE,if_pos (by omega)])
 conv=>whnf
 refine⟨fun h=>?_,fun h=>?_⟩<;>(try simp only [Q0,Q1,Q2,Q3,Q4,Q5,Q6,Q7,Q8,reduceCtorEq] at h)<;>(conv=>whnf)
 ·exact PSub.int (by rw [capE,if_pos (by omega)])
 rename_i h0
 simp only [decide_eq_false_iff_not] at h0
 rw [capE,if_neg (by omega)]
 refine loop_k (ι:=Nat × Int) [1,2,21,22] [2] (fun i=>i.1≤d.clusters.length∧(0≤i.2∧i.2≤i.1 * 1048576)∧forI (capStep f d) (d.clusters.length - i.1) i.1 i.2=forI (capStep f d) d.clusters.length 0 0) (fun i=>d.clusters.length - i.1) (0,0) (fun i=>[(5,.pv (vint i.2)),(23,.pv (vint i.1))]) (fun _=>[]) [] ⟨Nat.zero_le _,by simp,rfl⟩ ?_ (fun i hk=>?_)
 ·(repeat' (first|exact PSub.rfl|exact rfl|exact PSubs.rfl|exact trivial|exact PSub.lit_sb rfl|refine And.intro ?_ ?_))
 obtain⟨k,n⟩:=i
 obtain⟨hkn,hn,hfor⟩:=hk
 simp only at hkn hn hfor
 conv=>whnf
 refine⟨fun h=>?_,fun h=>?_⟩<;>(try simp only [Q0,Q1,Q2,Q3,Q4,Q5,Q6,Q7,Q8,reduceCtorEq] at h)<;>(conv=>whnf)
 ·refine And.intro (by omega) ?_
  conv=>whnf
  refine⟨fun p hp=>?_,fun hp=>?_⟩
  ·simp only [cluLook,Int.toNat_natCast] at hp
   cases hf0:f (d.clusters.getD k default) with
   |none=>rw [hf0] at hp;cases hp
   |some c=>
    rw [hf0] at hp
    cases hp
    have hcl:c.attrs.length≤1048576:=(hf _ _ hf0).1
    conv=>whnf
    repeat (any_goals (first
     |(refine⟨fun(h:(_:Bool)=true)=>?_,fun(h:(_:Bool)=false)=>?_⟩<;>(try simp only [Q0,Q1,Q2,Q3,Q4,Q5,Q6,Q7,Q8,reduceCtorEq] at h)<;>(conv=>whnf))
     |(refine .inl ⟨_,Z01r d.clusters (d.clusters.getD k default) (by omega),?_⟩;conv=>whnf)
     |(refine .inl ⟨wrap64 (by omega),?_⟩;conv=>whnf)))
    ·rw [Z0fh hfor (by omega) (r:=9) (by rw [capStep,hf0];simp only;rw [if_pos h])]
     exact PSub.rfl
    ·refine⟨(k+1,n+c.attrs.length),[],⟨by dsimp only;omega,⟨by dsimp only;omega,by dsimp only;omega⟩,Z0ff hfor (by omega) (by rw [capStep,hf0];simp only;rw [if_neg h])⟩,by dsimp only;omega,?_⟩
     (repeat' (first|exact PSub.rfl|exact rfl|exact PSubs.rfl|exact trivial|exact PSub.lit_sb rfl|refine And.intro ?_ ?_))
  ·simp only [cluLook,Int.toNat_natCast] at hp
   have hf0:f (d.clusters.getD k default)=none:=by simpa using hp
   conv=>whnf
   repeat (any_goals (first
    |(refine⟨fun(h:(_:Bool)=true)=>?_,fun(h:(_:Bool)=false)=>?_⟩<;>(try simp only [Q0,Q1,Q2,Q3,Q4,Q5,Q6,Q7,Q8,reduceCtorEq] at h)<;>(conv=>whnf))))
   rw [Z0fh hfor (by omega) (r:=8) (by rw [capStep,hf0])]
   exact PSub.rfl
 ·rw [Z0fd hfor (by omega)]
  repeat (any_goals (first
   |(refine⟨fun(h:(_:Bool)=true)=>?_,fun(h:(_:Bool)=false)=>?_⟩<;>(try simp only [Q0,Q1,Q2,Q3,Q4,Q5,Q6,Q7,Q8,reduceCtorEq] at h)<;>(conv=>whnf))))
  ·exact PSub.int (by simp only;rw [if_pos h])
  ·exact PSub.int (by simp only;rw [if_neg h])
def devE (f:ByteArray→Option Clu) (l:List Dev) (i:Nat):Int:=
 if numB (l.getD i default)=false then 2 else if 0 < i∧(l.getD i default).id≤(l.getD (i - 1) default).id then 14
 else if anyN i (fun j=>decide ((l.getD j default).eui=(l.getD i default).eui))=true then 9 else if validName (l.getD i default).room=false then 10
 else capE f (l.getD i default)
def homE (H:Hom):Int:=if allE H.clusters≠0 then allE H.clusters else if 20 < H.devices.length then 3 else firstE H.devices.length (devE (firstC H.clusters) H.devices)
theorem Z0b7 {l:List Clu} {k:Nat} (h:∀ i,i < k→cluE l i=0) {i j:Nat} (hi:i < j) (hj:j < k):(l.getD i default).name≠(l.getD j default).name:=by
 intro e
 have:=h j hj
 unfold cluE at this
 split at this
 ·contradiction
 ·rw [if_pos (Z08e hi (by simpa [-List.getD_eq_getElem?_getD] using e))] at this
  cases this
theorem Z0eh {n:Nat} {f:Nat→Int} (h:firstE n f=0):∀ i,i < n→f i=0:=by
 intro i hi
 unfold firstE at h
 split at h
 ·rename_i j e
  rw [List.find?_range_eq_some] at e
  exact absurd h (by simpa using e.1)
 ·rename_i e
  rw [List.find?_eq_none] at e
  simpa using e i (by simpa using hi)
theorem Z0ju {l:List Clu} (h:∀ i,i < l.length→cluE l i=0) (s:ByteArray):lastC l l.length s=firstC l s:=by
 have hnone:∀ k,k≤l.length→(∀ i,i < k→(l.getD i default).name≠s)→lastC l k s=none:=by
  intro k
  induction k with
  |zero=>intro _ _;rfl
  |succ k ih=>intro hk hn;rw [lastC,if_neg (hn k (by omega)),ih (by omega) fun i hi=>hn i (by omega)]
 have hsome:∀ k,k≤l.length→∀ i,i < k→(l.getD i default).name=s→lastC l k s=some (l.getD i default):=by
  intro k
  induction k with
  |zero=>intro _ i hi;omega
  |succ k ih=>
   intro hk i hi e
   rw [lastC]
   by_cases e2:i=k
   ·subst e2;rw [if_pos e]
   ·rw [if_neg fun e3=>Z0b7 (k:=l.length) h (i:=i) (j:=k) (by omega) (by omega) (e.trans e3.symm)]
    exact ih (by omega) i (by omega) e
 unfold firstC
 cases hf:l.find? fun c=>decide (c.name=s) with
 |none=>
  rw [List.find?_eq_none] at hf
  refine hnone _ (Nat.le_refl _) fun i hi=>?_
  have:=hf l[i] (List.getElem_mem hi)
  simpa [List.getD,hi] using this
 |some c=>
  obtain⟨h1,xs,ys,h2,h3⟩:=List.find?_eq_some_iff_append.1 hf
  have hi:xs.length < l.length:=by rw [h2];simp
  have e:l.getD xs.length default=c:=by simp [h2]
  rw [←e]
  exact hsome _ (Nat.le_refl _) _ hi (by rw [e];simpa using h1)
theorem Z0ed {l:List Clu} (hl:smallKs l) {s:ByteArray} {c:Clu} (h:firstC l s=some c):smallK c:=by
 have:=List.mem_of_find?_eq_some h
 obtain⟨i,hi,rfl⟩:=List.getElem_of_mem this
 have:=hl.2 i
 simpa [List.getD,hi] using this
def smallD (d:Dev):Prop:=smallL d.clusters∧-9223372036854775808≤d.id∧d.id≤9223372036854775807
def smallH (H:Hom):Prop:=smallKs H.clusters∧smallL H.devices∧∀ i,smallD (H.devices.getD i default)
def euiLook (l:List Dev) (k:Nat):Value→Option PV
 | .int .u64 n=>if anyN k (fun j=>decide ((l.getD j default).eui=n))=true then some (.val (.bool true)) else none
 |_=>none
theorem Z08d {n:Nat} {p:Nat→Bool}:anyN (n+1) p=(anyN n p || p n):=by simp [anyN,List.range_succ]
theorem Z0cz (l:List Dev) (k:Nat) (s:Int):lookPut (euiLook l k) (.int .u64 (l.getD k default).eui) (.val (.bool true)) (.int .u64 s)=euiLook l (k+1) (.int .u64 s):=by
 simp only [lookPut,euiLook,Z08d,Value.int.injEq,true_and]
 by_cases e:s=(l.getD k default).eui
 ·rw [if_pos e,if_pos (by simp [e,-List.getD_eq_getElem?_getD])]
 ·rw [if_neg e]
  have e2:decide ((l.getD k default).eui=s)=false:=by simpa [-List.getD_eq_getElem?_getD] using fun x=>e x.symm
  rw [e2,Bool.or_false]
theorem Z00k (H:Hom) (hH:smallH H):AC Tryz.prog 49 [.pv (.agg (cHom H))] [] (.pv (vint (homE H))) []:=by
 have hl:H.devices.length≤1048576:=hH.2.1
 refine AC.of_awp (T:=T) T_ok hm Tryz.call49 Tryz.func49 rfl rfl rfl ?_
 conv=>whnf
 refine .inl ⟨_,Z003 H.clusters hH.1,?_⟩
 conv=>whnf
 refine⟨fun h=>?_,fun h=>?_⟩<;>(try simp only [Q0,Q1,Q2,Q3,Q4,Q5,Q6,Q7,Q8,reduceCtorEq] at h)<;>(conv=>whnf)
 ·exact PSub.int (by rw [homE,if_pos h])
 rw [homE,if_neg (by simpa using h)]
 have ha:=h
 refine⟨fun h=>?_,fun h=>?_⟩<;>(try simp only [Q0,Q1,Q2,Q3,Q4,Q5,Q6,Q7,Q8,reduceCtorEq] at h)<;>(conv=>whnf)
 ·exact PSub.int (by rw [if_pos (by omega)])
 rw [if_neg (by omega)]
 refine .inl ⟨_,Z00p H hH.1.1,?_⟩
 conv=>whnf
 clear h
 have hu:∀ i,i < H.clusters.length→cluE H.clusters i=0:=Z0eh (by
  unfold allE at ha
  split at ha
  ·cases ha
  ·exact ha)
 have hm:PSub (.map (.one .str) (cluLook (lastC H.clusters H.clusters.length))) (.map (.one .str) (cluLook (firstC H.clusters))):=PSub.map (by
  rintro _ ⟨s,rfl⟩
  simp only [cluLook,Z0ju hu])
 refine loop_k (ι:=Nat) [1,4,5,23,24] [1] (fun k=>k≤H.devices.length∧(∀ j,j < k→devE (firstC H.clusters) H.devices j=0)) (fun k=>H.devices.length - k) 0 (fun k=>[(25,.pv (vint k))]) (fun k=>[(21,.map (.one (.int .u64)) (euiLook H.devices k))]) [] ⟨Nat.zero_le _,fun j h=>absurd h (by omega)⟩ ?_ (fun k hk=>?_)
 ·(repeat' (first|exact PSub.rfl|exact rfl|exact PSubs.rfl|exact trivial|exact PSub.lit_sb rfl|refine And.intro ?_ ?_));all_goals (rintro _ ⟨s,rfl⟩;rfl)
 obtain⟨hkn,hinv⟩:=hk
 conv=>whnf
 repeat (any_goals (first
  |(refine⟨fun(h:(_:Bool)=true)=>?_,fun(h:(_:Bool)=false)=>?_⟩<;>(try simp only [Q0,Q1,Q2,Q3,Q4,Q5,Q6,Q7,Q8,reduceCtorEq] at h)<;>(conv=>whnf))
  |(refine .inl ⟨_,Z00t (H.devices.getD k default),?_⟩;conv=>whnf)
  |(refine And.intro (by(try simp only [Int.toNat_natCast]);omega) ?_;conv=>whnf)
  |(refine And.intro (show(_:Bool)=true from by kernel_rfl) ?_;conv=>whnf)
  |(refine .inl ⟨wrap64 (by omega),?_⟩;conv=>whnf)))
 ·have e:devE (firstC H.clusters) H.devices k=2:=by simp [devE,h,-List.getD_eq_getElem?_getD]
  exact PSub.int (by rw [Z0ef (k:=k) (by omega) (by rw [e];decide) hinv,e])
 ·rename_i h0 h1
  rw [show(↑k - 1:Int).toNat=k - 1 from by omega] at h
  have e:devE (firstC H.clusters) H.devices k=14:=by simp [devE,h0,h,-List.getD_eq_getElem?_getD];omega
  exact PSub.int (by rw [Z0ef (k:=k) (by omega) (by rw [e];decide) hinv,e])
 ·rw [show(↑k - 1:Int).toNat=k - 1 from by omega] at h
  refine⟨fun p=>?_,fun h=>?_⟩
  ·intro hp
   rename_i h0 h1
   have hnum:numB (H.devices.getD k default)=true:=by assumption
   rw [Int.toNat_natCast] at hp
   simp only [euiLook] at hp
   split at hp
   ·rename_i hany
    cases hp
    conv=>whnf
    have e:devE (firstC H.clusters) H.devices k=9:=by simp [devE,hnum,h0,h1,hany,-List.getD_eq_getElem?_getD];try omega
    exact PSub.int (by rw [Z0ef (k:=k) (by omega) (by rw [e];decide) hinv,e])
   ·cases hp
  ·rw [Int.toNat_natCast] at h
   conv=>whnf
   have hany:anyN k (fun j=>decide ((H.devices.getD j default).eui=(H.devices.getD k default).eui))=false:=by
    simp only [euiLook] at h
    split at h
    ·cases h
    ·rename_i hx;simpa using hx
   rename_i h0 h1
   have hnum:numB (H.devices.getD k default)=true:=by assumption
   repeat (any_goals (first
    |(refine⟨fun(h:(_:Bool)=true)=>?_,fun(h:(_:Bool)=false)=>?_⟩<;>(try simp only [Q0,Q1,Q2,Q3,Q4,Q5,Q6,Q7,Q8,reduceCtorEq] at h)<;>(conv=>whnf))
    |(refine .inl ⟨_,Z01t (H.devices.getD k default).room,?_⟩;conv=>whnf)
    |(refine .inl ⟨_,AC.sub2 (Z00o (H.devices.getD k default) (firstC H.clusters) (fun _ _=>Z0ed hH.1)) .rfl hm,?_⟩;conv=>whnf)
    |(refine .inl ⟨wrap64 (by omega),?_⟩;conv=>whnf)))
   ·have e:devE (firstC H.clusters) H.devices k=10:=by simp [devE,hnum,h0,h1,hany,h,-List.getD_eq_getElem?_getD];try omega
    exact PSub.int (by rw [Z0ef (k:=k) (by omega) (by rw [e];decide) hinv,e])
   ·rename_i h2
    have e:devE (firstC H.clusters) H.devices k=capE (firstC H.clusters) (H.devices.getD k default):=by simp [devE,hnum,h0,h1,hany,h2,-List.getD_eq_getElem?_getD];try omega
    exact PSub.int (by rw [Z0ef (k:=k) (by omega) (by rw [e];exact h) hinv,e])
   ·rename_i h2
    have e:devE (firstC H.clusters) H.devices k=0:=by simp [devE,hnum,h0,h1,hany,h2,h,-List.getD_eq_getElem?_getD];try omega
    refine⟨k+1,[],⟨by omega,?_⟩,by omega,?_⟩
    ·intro j hj
     by_cases ee:j=k
     ·subst ee;exact e
     ·exact hinv j (by omega)
    ·(repeat' (first|exact PSub.rfl|exact rfl|exact PSubs.rfl|exact trivial|exact PSub.lit_sb rfl|refine And.intro ?_ ?_))
     rintro _ ⟨s,rfl⟩
     exact Z0cz H.devices k s
 ·refine⟨fun p=>?_,fun h=>?_⟩
  ·intro hp
   rename_i h0 h1
   have hnum:numB (H.devices.getD k default)=true:=by assumption
   rw [Int.toNat_natCast] at hp
   simp only [euiLook] at hp
   split at hp
   ·rename_i hany
    cases hp
    conv=>whnf
    have e:devE (firstC H.clusters) H.devices k=9:=by simp [devE,hnum,h0,h1,hany,-List.getD_eq_getElem?_getD];try omega
    exact PSub.int (by rw [Z0ef (k:=k) (by omega) (by rw [e];decide) hinv,e])
   ·cases hp
  ·rw [Int.toNat_natCast] at h
   conv=>whnf
   have hany:anyN k (fun j=>decide ((H.devices.getD j default).eui=(H.devices.getD k default).eui))=false:=by
    simp only [euiLook] at h
    split at h
    ·cases h
    ·rename_i hx;simpa using hx
   rename_i h0 h1
   have hnum:numB (H.devices.getD k default)=true:=by assumption
   repeat (any_goals (first
    |(refine⟨fun(h:(_:Bool)=true)=>?_,fun(h:(_:Bool)=false)=>?_⟩<;>(try simp only [Q0,Q1,Q2,Q3,Q4,Q5,Q6,Q7,Q8,reduceCtorEq] at h)<;>(conv=>whnf))
    |(refine .inl ⟨_,Z01t (H.devices.getD k default).room,?_⟩;conv=>whnf)
    |(refine .inl ⟨_,AC.sub2 (Z00o (H.devices.getD k default) (firstC H.clusters) (fun _ _=>Z0ed hH.1)) .rfl hm,?_⟩;conv=>whnf)
    |(refine .inl ⟨wrap64 (by omega),?_⟩;conv=>whnf)))
   ·have e:devE (firstC H.clusters) H.devices k=10:=by simp [devE,hnum,h0,h1,hany,h,-List.getD_eq_getElem?_getD];try omega
    exact PSub.int (by rw [Z0ef (k:=k) (by omega) (by rw [e];decide) hinv,e])
   ·rename_i h2
    have e:devE (firstC H.clusters) H.devices k=capE (firstC H.clusters) (H.devices.getD k default):=by simp [devE,hnum,h0,h1,hany,h2,-List.getD_eq_getElem?_getD];try omega
    exact PSub.int (by rw [Z0ef (k:=k) (by omega) (by rw [e];exact h) hinv,e])
   ·rename_i h2
    have e:devE (firstC H.clusters) H.devices k=0:=by simp [devE,hnum,h0,h1,hany,h2,h,-List.getD_eq_getElem?_getD];try omega
    refine⟨k+1,[],⟨by omega,?_⟩,by omega,?_⟩
    ·intro j hj
     by_cases ee:j=k
     ·subst ee;exact e
     ·exact hinv j (by omega)
    ·(repeat' (first|exact PSub.rfl|exact rfl|exact PSubs.rfl|exact trivial|exact PSub.lit_sb rfl|refine And.intro ?_ ?_))
     rintro _ ⟨s,rfl⟩
     exact Z0cz H.devices k s
 ·exact PSub.int (by rw [Z0eg fun j hj=>hinv j (by omega)])
end Go.Abs
namespace Go.Abs
open Go.Proofs
set_option maxRecDepth 10000
def cluAt (l:List Clu) (s:ByteArray):Nat:=firstI l.length fun i=>decide ((l.getD i default).name=s)
theorem Z0ea (l:List Clu) (s:ByteArray):firstC l s=if cluAt l s < l.length then some (l.getD (cluAt l s) default) else none:=by
 unfold firstC cluAt
 cases hf:l.find? fun c=>decide (c.name=s) with
 |none=>
  rw [List.find?_eq_none] at hf
  rw [Z0el fun i hi=>?_,if_neg (Nat.lt_irrefl _)]
  have:=hf l[i] (List.getElem_mem hi)
  simpa [List.getD,hi] using this
 |some c=>
  obtain⟨h1,xs,ys,h2,h3⟩:=List.find?_eq_some_iff_append.1 hf
  have hi:xs.length < l.length:=by rw [h2];simp
  have e:l.getD xs.length default=c:=by simp [h2]
  have ef:firstI l.length (fun i=>decide ((l.getD i default).name=s))=xs.length:=by
   refine Z0ei hi (by rw [e];exact h1) fun j hj=>?_
   have:=h3 xs[j] (List.getElem_mem hj)
   simpa [h2,List.getElem?_append_left hj,hj] using this
  rw [ef,if_pos hi,e]
def devAt (l:List Dev) (id:Int):Nat:=firstI l.length fun i=>decide ((l.getD i default).id=id)
end Go.Abs
namespace Go.Abs
open Go.Proofs
set_option maxRecDepth 10000
def keyLess (a b:Key):Bool:=if a.dev≠b.dev then decide (a.dev < b.dev) else if a.cluster≠b.cluster then Op.bytesLess a.cluster.toList b.cluster.toList else Op.bytesLess a.attr.toList b.attr.toList
theorem Z00n (a b:Key):AC Tryz.prog 56 [.pv (.agg (cKey a)),.pv (.agg (cKey b))] [] (.pv (vbool (keyLess a b))) []:=by
 refine AC.of_awp (T:=T) T_ok hm Tryz.call56 Tryz.func56 rfl rfl rfl ?_
 conv=>whnf
 repeat (any_goals (first
  |(refine⟨fun(h:(_:Bool)=true)=>?_,fun(h:(_:Bool)=false)=>?_⟩<;>(try simp only [Q0,Q1,Q2,Q3,Q4,Q5,Q6,Q7,Q8,reduceCtorEq] at h)<;>(conv=>whnf))))
 all_goals (try simp only [Q0,Q1,Q2,Q3,Q4,Q5,Q6,Q7,Q8,reduceCtorEq] at *)
 all_goals first
  |contradiction
  |(exfalso;omega)
  |exact PSub.rfl
  |(refine PSub.int ?_;simp only [keyLess];(repeat' split)<;>first|rfl|omega|(simp_all [-List.getD_eq_getElem?_getD];done)|(simp_all [-List.getD_eq_getElem?_getD];omega))
  |(refine PSub.sb ?_;simp_all [keyLess,-List.getD_eq_getElem?_getD];done)
  |(refine PSub.lit_sb ?_;simp_all [keyLess,-List.getD_eq_getElem?_getD];done)
  |(refine PSub.sb_lit ?_;simp_all [keyLess,-List.getD_eq_getElem?_getD];done)
  |(refine PSub.sb ?_;rw [Bool.eq_iff_iff];simp_all [keyLess,-List.getD_eq_getElem?_getD];done)
  |(refine PSub.lit_sb ?_;rw [Bool.eq_iff_iff];simp_all [keyLess,-List.getD_eq_getElem?_getD];done)
  |(refine PSub.sb_lit ?_;rw [Bool.eq_iff_iff];simp_all [keyLess,-List.getD_eq_getElem?_getD];done)
  |skip
def noDev:Dev:=⟨0,0,0,false,0,⟨#[]⟩,[]⟩
def findB (H:Hom) (id:Int):Bool:=decide (homE H=0) && decide (devAt H.devices id < H.devices.length)
def findD (H:Hom) (id:Int):Dev:=if findB H id=true then H.devices.getD (devAt H.devices id) default else noDev
theorem Z0lv:PSub (.agg [vint 0,.val (.int .u64 0),vint 0,.val (.bool false),vint 0,vstr ⟨#[]⟩,.val (.slice none 0 0)]) (.agg (cDev noDev)):=PSub.agg ⟨.rfl,.rfl,.rfl,PSub.lit_sb rfl,.rfl,.rfl,PSub.nil_ro _ _,trivial⟩
theorem Z00q (H:Hom) (id:Int) (hH:smallH H):AC Tryz.prog 193 [.pv (.agg (cHom H)),.pv (vint id)] [] (.pv (.tup [.agg (cDev (findD H id)),vbool (findB H id)])) []:=by
 have hl:H.devices.length≤1048576:=hH.2.1
 refine AC.of_awp (T:=T) T_ok hm Tryz.call193 Tryz.func193 rfl rfl rfl ?_
 conv=>whnf
 refine .inl ⟨_,Z00k H hH,?_⟩
 conv=>whnf
 refine⟨fun h=>?_,fun h=>?_⟩<;>(try simp only [Q0,Q1,Q2,Q3,Q4,Q5,Q6,Q7,Q8,reduceCtorEq] at h)<;>(conv=>whnf)
 ·have e:findB H id=false:=by simp [findB,h]
  rw [findD,e]
  refine⟨?_,?_⟩<;>(conv=>whnf)
  ·exact Z0lv
  ·exact PSub.lit_sb rfl
 have h0:=h
 refine loop_k (ι:=Nat) [1,4,13,14] [4] (fun k=>k≤H.devices.length∧(∀ j,j < k→decide ((H.devices.getD j default).id=id)=false)) (fun k=>H.devices.length - k) 0 (fun k=>[(15,.pv (vint k))]) (fun _=>[]) [] ⟨Nat.zero_le _,fun j h=>absurd h (by omega)⟩ ?_ (fun k hk=>?_)
 ·(repeat' (first|exact PSub.rfl|exact rfl|exact PSubs.rfl|exact trivial|exact PSub.lit_sb rfl|refine And.intro ?_ ?_))
 obtain⟨hkn,hinv⟩:=hk
 conv=>whnf
 repeat (any_goals (first
  |(refine⟨fun(h:(_:Bool)=true)=>?_,fun(h:(_:Bool)=false)=>?_⟩<;>(try simp only [Q0,Q1,Q2,Q3,Q4,Q5,Q6,Q7,Q8,reduceCtorEq] at h)<;>(conv=>whnf))
  |(refine And.intro (by(try simp only [Int.toNat_natCast]);omega) ?_;conv=>whnf)
  |(refine .inl ⟨wrap64 (by omega),?_⟩;conv=>whnf)))
 ·have e:devAt H.devices id=k:=Z0ei (by omega) (by simpa [-List.getD_eq_getElem?_getD] using h) hinv
  have e2:findB H id=true:=by simp [findB,h0,e];omega
  rw [findD,e2,e,if_pos rfl]
  refine⟨?_,?_⟩<;>(conv=>whnf)
  ·exact .rfl
  ·exact PSub.lit_sb rfl
 ·refine⟨k+1,[],⟨by omega,?_⟩,by first|omega|(dsimp only;omega),?_⟩
  rotate_left
  ·(repeat' (first|exact PSub.rfl|exact rfl|exact PSubs.rfl|exact trivial|exact PSub.lit_sb rfl|refine And.intro ?_ ?_))
  intro j hj
  by_cases e:j=k
  ·subst e;first|exact h|simpa [-List.getD_eq_getElem?_getD] using h|simp_all [-List.getD_eq_getElem?_getD]
  ·exact hinv j (by omega)
 ·have e:devAt H.devices id=H.devices.length:=Z0el fun j hj=>hinv j (by omega)
  have e2:findB H id=false:=by simp [findB,e]
  rw [findD,e2]
  refine⟨?_,?_⟩<;>(conv=>whnf)
  ·exact Z0lv
  ·exact PSub.lit_sb rfl
end Go.Abs
namespace Go.Abs
open Go.Proofs
set_option maxRecDepth 10000
def attrsOf (o:Option Clu):List Attr:=match o with|some c=>c.attrs|none=>[]
def keysOf1 (f:ByteArray→Option Clu) (id:Int) (s:ByteArray):List Key:=(attrsOf (f s)).map fun a=>⟨id,s,a.name⟩
def keysL (H:Hom) (id:Int):List Key:=(findD H id).clusters.flatMap (keysOf1 (firstC H.clusters) id)
theorem Z07v {l:List Clu} (ha:allE l=0):∀ i,i < l.length→cluE l i=0:=Z0eh (by
  unfold allE at ha
  split at ha
  ·cases ha
  ·exact ha)
theorem Z0gx {H:Hom} (h:homE H=0):allE H.clusters=0:=by
 unfold homE at h
 split at h
 ·contradiction
 ·omega
theorem Z0ao {f:ByteArray→Option Clu} {d:Dev} (h:capE f d=0):1≤d.clusters.length∧d.clusters.length≤4:=by
 unfold capE at h
 split at h
 ·cases h
 ·omega
theorem Z0gy {H:Hom} (h:homE H=0) {i:Nat} (hi:i < H.devices.length):devE (firstC H.clusters) H.devices i=0:=by
 unfold homE at h
 split at h
 ·contradiction
 ·split at h
  ·cases h
  ·exact Z0eh h i hi
theorem Z0cd {f:ByteArray→Option Clu} {l:List Dev} {i:Nat} (h:devE f l i=0):capE f (l.getD i default)=0:=by
 unfold devE at h
 split at h
 ·cases h
 ·split at h
  ·cases h
  ·split at h
   ·cases h
   ·split at h
    ·cases h
    ·exact h
theorem Z0ds {H:Hom} {id:Int} (h:findB H id=true):capE (firstC H.clusters) (findD H id)=0:=by
 rw [findD,if_pos h]
 simp only [findB,Bool.and_eq_true,decide_eq_true_eq] at h
 exact Z0cd (Z0gy h.1 h.2)
theorem Z0du {H:Hom} {id:Int} (h:findB H id=false):findD H id=noDev:=by rw [findD,h];rfl
theorem Z0dt {H:Hom} {id:Int}:(findD H id).clusters.length≤4:=by
 cases h:findB H id with
 |true=>exact(Z0ao (Z0ds h)).2
 |false=>rw [Z0du h];decide
theorem Z0ko {f:ByteArray→Option Clu} (s:ByteArray):(∃ c,f s=some c∧cluLook f (.string s)=some (.agg (cClu c)))∨(f s=none∧cluLook f (.string s)=none):=by
 simp only [cluLook]
 cases f s with
 |none=>exact .inr ⟨rfl,rfl⟩
 |some c=>exact .inl ⟨c,rfl,rfl⟩
end Go.Abs
namespace Go.Abs
open Go.Proofs
set_option maxRecDepth 10000
theorem Z0fg {ρ σ:Type} {f:Nat→σ→ρ ⊕ σ}:∀ (n k:Nat) (s s':σ),forI f n k s = .inr s'→∀ i,k≤i→i < k+n→∃ t t',f i t = .inr t'
 |0,k,s,s',_,i,h1,h2=>by omega
 |n+1,k,s,s',e,i,h1,h2=>by
  simp only [forI] at e
  cases hf:f k s with
  |inl r=>rw [hf] at e;cases e
  |inr t=>
   rw [hf] at e
   by_cases hi:i=k
   ·subst hi;exact⟨s,t,hf⟩
   ·exact Z0fg n (k+1) t s' e i (by omega) (by omega)
theorem Z0ap {f:ByteArray→Option Clu} {d:Dev} (h:capE f d=0) {i:Nat} (hi:i < d.clusters.length):∃ c,f (d.clusters.getD i default)=some c:=by
 unfold capE at h
 split at h
 ·cases h
 ·split at h
  ·rename_i e he
   subst h
   exfalso
   have key:∀ n k s,forI (capStep f d) n k s≠.inl 0:=by
    intro n
    induction n with
    |zero=>intro k s e;cases e
    |succ n ih=>
     intro k s e
     simp only [forI] at e
     cases hf:capStep f d k s with
     |inr t=>rw [hf] at e;exact ih _ _ e
     |inl r=>
      rw [hf] at e;cases e
      unfold capStep at hf
      split at hf
      ·cases hf
      ·split at hf<;>cases hf
   exact key _ _ _ he
  ·rename_i m he
   obtain⟨t,t',e⟩:=Z0fg _ _ _ _ he i (Nat.zero_le _) (by omega)
   unfold capStep at e
   split at e
   ·cases e
   ·rename_i c hc;exact⟨c,hc⟩
theorem Z0h4 {l:List ByteArray} {s:ByteArray} (h:0≤idxOf l s):∃ i,i < l.length∧l.getD i default=s:=by
 unfold idxOf at h
 split at h
 ·rename_i i e
  rw [List.findIdx?_eq_some_iff_getElem] at e
  obtain⟨hi,he,_⟩:=e
  exact⟨i,hi,by simpa [List.getD,hi] using he⟩
 ·omega
end Go.Abs
namespace Go.Abs
open Go.Proofs
set_option maxRecDepth 10000
def noClu:Clu:=⟨⟨#[]⟩,[],[],[]⟩
def partO (H:Hom) (id:Int) (s:ByteArray):Option Clu:=if findB H id=true∧0≤idxOf (findD H id).clusters s then firstC H.clusters s else none
def attrO (o:Option Clu) (s:ByteArray):Option Attr:=match o with
 |some c=>if attrAt c.attrs s < c.attrs.length then some (c.attrs.getD (attrAt c.attrs s) default) else none
 |none=>none
def findA (H:Hom) (k:Key):Option Attr:=attrO (partO H k.dev k.cluster) k.attr
theorem Z0lt:PSub (.agg zAttr) (.agg (cAttr noAttr)):=PSub.agg Z0ls
theorem Z0lu:PSub (.agg [vstr ⟨#[]⟩,.val (.slice none 0 0),.val (.slice none 0 0),.val (.slice none 0 0)]) (.agg (cClu noClu)):=PSub.agg ⟨.rfl,PSub.nil_ro _ _,PSub.nil_ro _ _,PSub.nil_ro _ _,trivial⟩
theorem Z0td:smallK noClu:=⟨Nat.zero_le _,fun _=>Nat.zero_le _,Nat.zero_le _,fun _=>⟨Nat.zero_le _,Nat.zero_le _⟩,Nat.zero_le _⟩
theorem Z00l (H:Hom) (k:Key) (hH:smallH H):AC Tryz.prog 133 [.pv (.agg (cHom H)),.pv (.agg (cKey k))] [] (.pv (.tup [.agg (cAttr ((findA H k).getD noAttr)),vbool (findA H k).isSome])) []:=by
 have hl:H.clusters.length≤1048576:=hH.1.1
 have hd4:=@Z0dt H k.dev
 refine AC.of_awp (T:=T) T_ok hm Tryz.call133 Tryz.func133 rfl rfl rfl ?_
 conv=>whnf
 refine .inl ⟨_,Z00q H k.dev hH,?_⟩
 conv=>whnf
 repeat (any_goals (first
  |(refine⟨fun(h:(_:Bool)=true)=>?_,fun(h:(_:Bool)=false)=>?_⟩<;>(try simp only [Q0,Q1,Q2,Q3,Q4,Q5,Q6,Q7,Q8,reduceCtorEq] at h)<;>(conv=>whnf))
  |(refine .inl ⟨_,Z01r (findD H k.dev).clusters k.cluster (by omega),?_⟩;conv=>whnf)
  |(refine .inl ⟨_,Z00p H hl,?_⟩;conv=>whnf)
  |(refine And.intro (show(_:Bool)=true from by kernel_rfl) ?_;conv=>whnf)))
 ·have e:findA H k=none:=by simp [findA,partO,h,attrO]
  rw [e]
  refine⟨?_,?_⟩<;>(conv=>whnf)
  ·exact Z0lt
  ·exact PSub.lit_sb rfl
 ·have e:findA H k=none:=by rw [findA,partO,if_neg (by omega)];rfl
  rw [e]
  refine⟨?_,?_⟩<;>(conv=>whnf)
  ·exact Z0lt
  ·exact PSub.lit_sb rfl
 ·rename_i hb
  have hpart:partO H k.dev k.cluster=firstC H.clusters k.cluster:=by rw [partO,if_pos ⟨hb,by omega⟩]
  have hv:homE H=0:=by simp only [findB,Bool.and_eq_true,decide_eq_true_eq] at hb;exact hb.1
  have hla:=Z0ju (Z07v (Z0gx hv)) k.cluster
  rw [show cluLook (lastC H.clusters H.clusters.length) (.string k.cluster)=cluLook (firstC H.clusters) (.string k.cluster) from by simp only [cluLook,hla]]
  rcases Z0ko (f:=firstC H.clusters) k.cluster with ⟨c,h1,h2⟩|⟨h1,h2⟩
  ·rw [h2]
   refine⟨fun p hp=>?_,fun hp=>by cases hp⟩
   cases hp
   conv=>whnf
   repeat (any_goals (first
    |(refine⟨fun(h:(_:Bool)=true)=>?_,fun(h:(_:Bool)=false)=>?_⟩<;>(try simp only [Q0,Q1,Q2,Q3,Q4,Q5,Q6,Q7,Q8,reduceCtorEq] at h)<;>(conv=>whnf))
    |(refine .inl ⟨_,Z005 c k.attr (Z0ed hH.1 h1),?_⟩;conv=>whnf)
    |(refine And.intro (show(_:Bool)=true from by kernel_rfl) ?_;conv=>whnf)))
   ·have e:findA H k=none:=by rw [findA,hpart,h1,attrO];rw [if_neg h]
    rw [e]
    refine⟨?_,?_⟩<;>(conv=>whnf)
    ·exact Z0lt
    ·exact PSub.lit_sb rfl
   ·have e:findA H k=some (attrOf c.attrs k.attr):=by rw [findA,hpart,h1,attrO,attrOf];rw [if_pos h,if_pos h]
    rw [e]
    refine⟨?_,?_⟩<;>(conv=>whnf)
    ·exact .rfl
    ·exact PSub.lit_sb rfl
  ·rw [h2]
   refine⟨fun p hp=>(by cases hp),fun hp=>?_⟩
   conv=>whnf
   repeat (any_goals (first
    |(refine⟨fun(h:(_:Bool)=true)=>?_,fun(h:(_:Bool)=false)=>?_⟩<;>(try simp only [Q0,Q1,Q2,Q3,Q4,Q5,Q6,Q7,Q8,reduceCtorEq] at h)<;>(conv=>whnf))
    |(refine .inl ⟨_,AC.sub2 (Z005 noClu k.attr Z0td) Z0lu .rfl,?_⟩;conv=>whnf)
    |(refine And.intro (show(_:Bool)=true from by kernel_rfl) ?_;conv=>whnf)))
   ·have e:findA H k=none:=by rw [findA,hpart,h1,attrO]
    rw [e]
    refine⟨?_,?_⟩<;>(conv=>whnf)
    ·exact Z0lt
    ·exact PSub.lit_sb rfl
   ·exact absurd h (by simp [noClu])
theorem Z0tn {H:Hom} {id:Int} {s:ByteArray} (hH:smallH H):smallK ((partO H id s).getD noClu):=by
 unfold partO
 split
 ·cases h:firstC H.clusters s with
  |none=>exact Z0td
  |some c=>exact Z0ed hH.1 h
 ·exact Z0td
end Go.Abs
namespace Go.Abs
open Go.Proofs
set_option maxRecDepth 10000
def ixI (n k:Nat):Int:=if k < n then (k:Int) else -1
theorem Z060 (l:List Item) (gb:List PV→Bool) (gi:List PV→Int) (hl:smallL l):AC Tryz.prog 298 [.pv (roL 7 cItem l),.clo (fun xs=>∃ x:Item,xs = [.agg (cItem x)]) true gb gi] [] (.pv (vint (ixI l.length (firstI l.length fun i=>gb [.agg (cItem (l.getD i default))])))) []:=by
 have hl:l.length≤1048576:=hl
 refine AC.of_awp (T:=T) T_ok hm Tryz.call298 Tryz.func298 rfl rfl rfl ?_
 conv=>whnf
 refine loop_k (ι:=Nat) [0,1,7] [] (fun k=>k≤l.length∧(∀ j,j < k→gb [.agg (cItem (l.getD j default))]=false)) (fun k=>l.length - k) 0 (fun k=>[(8,.pv (vint k))]) (fun _=>[]) [] ⟨Nat.zero_le _,fun j h=>absurd h (by omega)⟩ ?_ (fun k hk=>?_)
 ·(repeat' (first|exact PSub.rfl|exact rfl|exact PSubs.rfl|exact trivial|exact PSub.lit_sb rfl|refine And.intro ?_ ?_))
 obtain⟨hkn,hinv⟩:=hk
 conv=>whnf
 repeat (any_goals (first
  |(refine⟨fun(h:(_:Bool)=true)=>?_,fun(h:(_:Bool)=false)=>?_⟩<;>(try simp only [Q0,Q1,Q2,Q3,Q4,Q5,Q6,Q7,Q8,reduceCtorEq] at h)<;>(conv=>whnf))
  |(refine And.intro (by(try simp only [Int.toNat_natCast]);omega) ?_;conv=>whnf)))
 refine And.intro ⟨l.getD k default,rfl⟩ ?_
 conv=>whnf
 repeat (any_goals (first
  |(refine⟨fun(h:(_:Bool)=true)=>?_,fun(h:(_:Bool)=false)=>?_⟩<;>(try simp only [Q0,Q1,Q2,Q3,Q4,Q5,Q6,Q7,Q8,reduceCtorEq] at h)<;>(conv=>whnf))
  |(refine .inl ⟨wrap64 (by omega),?_⟩;conv=>whnf)))
 ·have e:firstI l.length (fun i=>gb [.agg (cItem (l.getD i default))])=k:=Z0ei (by omega) h hinv
  exact PSub.int (by rw [e,ixI,if_pos (by omega)])
 ·refine⟨k+1,[],⟨by omega,?_⟩,by first|omega|(dsimp only;omega),?_⟩
  rotate_left
  ·(repeat' (first|exact PSub.rfl|exact rfl|exact PSubs.rfl|exact trivial|exact PSub.lit_sb rfl|refine And.intro ?_ ?_))
  intro j hj
  by_cases e:j=k
  ·subst e;first|exact h|simpa [-List.getD_eq_getElem?_getD] using h|simp_all [-List.getD_eq_getElem?_getD]
  ·exact hinv j (by omega)
 ·have e:firstI l.length (fun i=>gb [.agg (cItem (l.getD i default))])=l.length:=Z0el fun j hj=>hinv j (by omega)
  exact PSub.int (by rw [e,ixI,if_neg (by omega)])
def keyB (k:Key):List PV→Bool
 | [.agg (.val (.int .i64 d) :: .val (.string c) :: .val (.string a) :: _)]=>decide ((⟨d,c,a⟩:Key)=k)
 |_=>false
theorem Z00s (x:Item) (k:Key):AC Tryz.prog 299 [.pv (.agg (cItem x)),.pv (.cell (cKey k))] [] (.pv (vbool (decide (x.key=k)))) []:=by
 refine AC.of_awp (T:=T) T_ok hm Tryz.call299 Tryz.func299 rfl rfl rfl ?_
 conv=>whnf
 skip
 refine PSub.sb ?_
 obtain⟨⟨a,b,c⟩,v,n⟩:=x
 obtain⟨d,e,f⟩:=k
 rw [Bool.eq_iff_iff];simp
def itemAt (l:List Item) (k:Key):Nat:=firstI l.length fun i=>decide ((l.getD i default).key=k)
theorem Z061 (l:List Item) (k:Key) (hl:smallL l):AC Tryz.prog 298 [.pv (roL 7 cItem l),.fn 299 [.pv (.cell (cKey k))]] [] (.pv (vint (ixI l.length (itemAt l k)))) []:=by
 refine AC.with_fn (pre:=[.pv (roL 7 cItem l)]) (post:=[]) (Z060 l (keyB k) (fun _=>0) hl) Tryz.call299 rfl rfl rfl ?_
 rintro xs ⟨x,rfl⟩
 exact Z00s x k
theorem Z00r (l:List Item) (k:Key) (hl:smallL l):AC Tryz.prog 294 [.pv (roL 7 cItem l),.pv (.agg (cKey k))] [] (.pv (vint (ixI l.length (itemAt l k)))) []:=by
 refine AC.of_awp (T:=T) T_ok hm Tryz.call294 Tryz.func294 rfl rfl rfl ?_
 conv=>whnf
 refine .inl ⟨_,Z061 l k hl,?_⟩
 conv=>whnf
 exact .rfl
def noItem:Item:=⟨⟨0,⟨#[]⟩,⟨#[]⟩⟩,noVal,0⟩
def getI (l:List Item) (k:Key):Item:=if itemAt l k < l.length then l.getD (itemAt l k) default else noItem
theorem Z00m (l:List Item) (k:Key) (hl:smallL l):AC Tryz.prog 292 [.pv (roL 7 cItem l),.pv (.agg (cKey k))] [] (.pv (.tup [.agg (cItem (getI l k)),vbool (decide (itemAt l k < l.length))])) []:=by
 refine AC.of_awp (T:=T) T_ok hm Tryz.call292 Tryz.func292 rfl rfl rfl ?_
 conv=>whnf
 refine .inl ⟨_,Z00r l k hl,?_⟩
 conv=>whnf
 unfold ixI
 by_cases hlt:itemAt l k < l.length
 ·rw [if_pos hlt]
  repeat (any_goals (first
   |(refine⟨fun(h:(_:Bool)=true)=>?_,fun(h:(_:Bool)=false)=>?_⟩<;>(try simp only [Q0,Q1,Q2,Q3,Q4,Q5,Q6,Q7,Q8,reduceCtorEq] at h)<;>(conv=>whnf))
   |(refine And.intro (by(try simp only [Int.toNat_natCast]);omega) ?_;conv=>whnf)))
  ·refine⟨?_,?_⟩<;>(conv=>whnf)
   ·exact PSub.of_eq (by rw [getI,if_pos hlt];rfl)
   ·exact PSub.lit_sb (by simp [hlt])
  ·exfalso;omega
 ·rw [if_neg hlt]
  repeat (any_goals (first
   |(refine⟨fun(h:(_:Bool)=true)=>?_,fun(h:(_:Bool)=false)=>?_⟩<;>(try simp only [Q0,Q1,Q2,Q3,Q4,Q5,Q6,Q7,Q8,reduceCtorEq] at h)<;>(conv=>whnf))
   |(refine And.intro (by(try simp only [Int.toNat_natCast]);omega) ?_;conv=>whnf)))
  ·exfalso;omega
  ·refine⟨?_,?_⟩<;>(conv=>whnf)
   ·exact PSub.of_eq (by rw [getI,if_neg hlt];rfl)
   ·exact PSub.lit_sb (by simp [hlt])
end Go.Abs
namespace Go.Abs
open Go.Proofs
set_option maxRecDepth 10000
theorem val_eq (a b:Val):(decide (a.kind=b.kind) && (decide (a.n=b.n) && (decide (a.s=b.s) && true)))=decide (a=b):=by
 obtain⟨a1,a2,a3⟩:=a
 obtain⟨b1,b2,b3⟩:=b
 rw [Bool.eq_iff_iff];simp
theorem Z0qx {α:Type} [Inhabited α] {enc:α→List PV} {l:List α} {i:Nat} {x:α} {F:Nat→List PV} (h1:∀ j,j < l.length→j≠i→PSubs (F j) (enc (l.getD j default))) (h2:i < l.length→PSubs (F i) (enc x)) :
  ∀ j,j < (l.set i x).length→PSubs (F j) (enc ((l.set i x).getD j default)):=by
 intro j hj
 rw [List.length_set] at hj
 by_cases e:j=i
 ·subst e
  have:(l.set j x).getD j default=x:=by simp [List.getD,hj]
  rw [this];exact h2 hj
 ·have:(l.set i x).getD j default=l.getD j default:=by simp [List.getD,List.getElem?_set_ne (Ne.symm e)]
  rw [this];exact h1 j hj e
def initL (H:Hom) (id:Int):List Item:=(List.range (keysL H id).length).map fun i=>⟨(keysL H id).getD i default,zeroV ((findA H ((keysL H id).getD i default)).getD noAttr),(i:Int)+1⟩
theorem Z0tl {H:Hom} (hH:smallH H) {k:Key}:smallA ((findA H k).getD noAttr):=by
 unfold findA
 cases h:partO H k.dev k.cluster with
 |none=>exact Nat.zero_le _
 |some c=>
  unfold attrO
  simp only
  have hc:smallK c:=by
   unfold partO at h
   split at h
   ·exact Z0ed hH.1 h
   ·cases h
  split
  ·exact hc.2.1 _
  ·exact Nat.zero_le _
theorem Z0iv {n k:Nat} (h:¬ ixI n k < 0):k < n∧ixI n k=(k:Int):=by
 unfold ixI at *
 split<;>rename_i h2
 ·exact⟨h2,rfl⟩
 ·rw [if_neg h2] at h;omega
end Go.Abs
namespace Go.Abs
open Go.Proofs
set_option maxRecDepth 10000
theorem Z085 {p:Nat→Prop}:∀ i,i < 0→p i:=fun i h=>absurd h (by omega)
theorem Z084 {p:Nat→Prop} {n:Nat} (h1:∀ i,i < n→p i) (h2:p n):∀ i,i < n+1→p i:=fun i h=>by
 rcases Nat.lt_or_ge i n with h3|h3
 ·exact h1 i h3
 ·have:i=n:=by omega
  subst this;exact h2
theorem Z00d (s:ByteArray) (w sf:Bool):AC Tryz.prog 77 [.pv (vstr s),.pv (.val (.bool w)),.pv (.val (.bool sf))] [] (.pv (.agg (cAttr ⟨s,1,0,0,[],w,sf⟩))) []:=by
 refine AC.of_awp (T:=T) T_ok hm Tryz.call77 Tryz.func77 rfl rfl rfl ?_
 conv=>whnf
 exact PSub.agg ⟨.rfl,.rfl,.rfl,.rfl,PSub.nil_ro _ _,PSub.lit_sb rfl,PSub.lit_sb rfl,trivial⟩
theorem Z00e (s:ByteArray) (lo hi:Int) (w:Bool):AC Tryz.prog 79 [.pv (vstr s),.pv (vint lo),.pv (vint hi),.pv (.val (.bool w))] [] (.pv (.agg (cAttr ⟨s,2,lo,hi,[],w,false⟩))) []:=by
 refine AC.of_awp (T:=T) T_ok hm Tryz.call79 Tryz.func79 rfl rfl rfl ?_
 conv=>whnf
 exact PSub.agg ⟨.rfl,.rfl,.rfl,.rfl,PSub.nil_ro _ _,PSub.lit_sb rfl,PSub.lit_sb rfl,trivial⟩
theorem Z00g (s a:ByteArray) (n:Int):AC Tryz.prog 78 [.pv (vstr s),.pv (vstr a),.pv (vint n)] [] (.pv (.agg (cCmd ⟨s,noAttr,[⟨1,a,n⟩]⟩))) []:=by
 refine AC.of_awp (T:=T) T_ok hm Tryz.call78 Tryz.func78 rfl rfl rfl ?_
 conv=>whnf
 skip
 exact PSub.agg ⟨.rfl,.rfl,.rfl,.rfl,.rfl,PSub.nil_ro _ _,PSub.lit_sb rfl,PSub.lit_sb rfl,PSub.ro rfl (Z084 Z085 PSubs.rfl),trivial⟩
def flagA (s:ByteArray) (w sf:Bool):Attr:=⟨s,1,0,0,[],w,sf⟩
def numA (s:ByteArray) (lo hi:Int) (w:Bool):Attr:=⟨s,2,lo,hi,[],w,false⟩
def setsC (s a:ByteArray) (n:Int):Cmd:=⟨s,noAttr,[⟨1,a,n⟩]⟩
def stdC:List Clu:=[
 ⟨(⟨#[111,110,111,102,102]⟩:ByteArray),[flagA (⟨#[111,110]⟩:ByteArray) true false],[setsC (⟨#[111,110]⟩:ByteArray) (⟨#[111,110]⟩:ByteArray) 1,setsC (⟨#[111,102,102]⟩:ByteArray) (⟨#[111,110]⟩:ByteArray) 0,⟨(⟨#[116,111,103,103,108,101]⟩:ByteArray),noAttr,[⟨4,(⟨#[111,110]⟩:ByteArray),0⟩]⟩],[]⟩,
 ⟨(⟨#[108,101,118,101,108]⟩:ByteArray),[numA (⟨#[108,101,118,101,108]⟩:ByteArray) 0 100 true],[⟨(⟨#[109,111,118,101]⟩:ByteArray),numA (⟨#[116,111]⟩:ByteArray) 0 100 false,[⟨2,(⟨#[108,101,118,101,108]⟩:ByteArray),0⟩]⟩,⟨(⟨#[115,116,101,112]⟩:ByteArray),noAttr,[⟨3,(⟨#[108,101,118,101,108]⟩:ByteArray),10⟩]⟩],[]⟩,
 ⟨(⟨#[108,111,99,107]⟩:ByteArray),[flagA (⟨#[108,111,99,107,101,100]⟩:ByteArray) true true],[setsC (⟨#[108,111,99,107]⟩:ByteArray) (⟨#[108,111,99,107,101,100]⟩:ByteArray) 1,setsC (⟨#[117,110,108,111,99,107]⟩:ByteArray) (⟨#[108,111,99,107,101,100]⟩:ByteArray) 0],[(⟨#[106,97,109]⟩:ByteArray)]⟩,
 ⟨(⟨#[116,104,101,114,109,111,115,116,97,116]⟩:ByteArray),[numA (⟨#[116,97,114,103,101,116]⟩:ByteArray) 50 300 true,numA (⟨#[116,101,109,112]⟩:ByteArray) (-500) 1000 false],[],[]⟩,
 ⟨(⟨#[115,109,111,107,101]⟩:ByteArray),[flagA (⟨#[97,108,97,114,109]⟩:ByteArray) false true],[],[(⟨#[116,101,115,116]⟩:ByteArray)]⟩,
 ⟨(⟨#[108,101,97,107]⟩:ByteArray),[flagA (⟨#[119,101,116]⟩:ByteArray) false true],[],[]⟩,
 ⟨(⟨#[118,97,108,118,101]⟩:ByteArray),[flagA (⟨#[111,112,101,110]⟩:ByteArray) true true],[setsC (⟨#[111,112,101,110]⟩:ByteArray) (⟨#[111,112,101,110]⟩:ByteArray) 1,setsC (⟨#[99,108,111,115,101]⟩:ByteArray) (⟨#[111,112,101,110]⟩:ByteArray) 0],[]⟩,
 ⟨(⟨#[109,101,116,101,114]⟩:ByteArray),[numA (⟨#[112,111,119,101,114]⟩:ByteArray) 0 100000 false],[],[]⟩]
def nameRow (k i:Nat):List PV:=[vstr (if i < k then glob0.getD i default else ⟨#[]⟩),.val (.slice none 0 0),.val (.slice none 0 0),.val (.slice none 0 0)]
set_option maxHeartbeats 2000000 in
theorem Z008:AC Tryz.prog 48 [] [] (.pv (roL 4 cClu stdC)) []:=by
 refine AC.of_awp (T:=T) T_ok hm Tryz.call48 Tryz.func48 rfl rfl rfl ?_
 conv=>whnf
 refine And.intro (by omega) ?_
 conv=>whnf
 refine loop_k (ι:=Nat) [1,5] [] (fun k=>k≤8∧True) (fun k=>8 - k) 0 (fun k=>[(6,.pv (vint k))]) (fun k=>[(4,.row 4 8 (nameRow k))]) [] ⟨Nat.zero_le _,trivial⟩ ?_ (fun k hk=>?_)
 ·(repeat' (first|exact PSub.rfl|exact rfl|exact PSubs.rfl|exact trivial|exact PSub.lit_sb rfl|refine And.intro ?_ ?_));all_goals ((intro i hi;exact PSubs.rfl))
 obtain⟨hkn,hinv⟩:=hk
 conv=>whnf
 repeat (any_goals (first
  |(refine⟨fun(h:(_:Bool)=true)=>?_,fun(h:(_:Bool)=false)=>?_⟩<;>(try simp only [Q0,Q1,Q2,Q3,Q4,Q5,Q6,Q7,Q8,reduceCtorEq] at h)<;>(conv=>whnf))))
 ·refine And.intro (show 0≤(k:Int)∧(k:Int) < ((8:Nat):Int) from by omega) ?_
  refine⟨vstr (glob0.getD k default),fun q hq=>?_,?_⟩
  ·have hk8:k < 8:=by omega
   rcases k with _|_|_|_|_|_|_|_|k
   all_goals first|omega|(cases hq;exact .rfl)
  ·conv=>whnf
   repeat (any_goals (first
    |(refine And.intro (by(try simp only [Int.toNat_natCast]);omega) ?_;conv=>whnf)
    |(refine .inl ⟨wrap64 (by omega),?_⟩;conv=>whnf)))
   refine⟨k+1,[],⟨by omega,trivial⟩,by omega,?_⟩
   (repeat' (first|exact PSub.rfl|exact rfl|exact PSubs.rfl|exact trivial|exact PSub.lit_sb rfl|refine And.intro ?_ ?_))
   intro i hi
   simp only [Int.toNat_natCast]
   by_cases e:i=k
   ·subst e;rw [Z0yg];exact⟨PSub.str (by rw [if_pos (by omega)]),.rfl,.rfl,.rfl,trivial⟩
   ·rw [Z0yf e];exact⟨PSub.str (by by_cases h2:i < k;rw [if_pos h2,if_pos (by omega)];rw [if_neg h2,if_neg (by omega)]),.rfl,.rfl,.rfl,trivial⟩
 ·have e:k=8:=by omega
  subst e
  refine .inl ⟨_,Z00d (⟨#[111,110]⟩:ByteArray) true false,?_⟩
  conv=>whnf
  repeat (refine And.intro (by omega) ?_;conv=>whnf)
  refine .inl ⟨_,Z00g (⟨#[111,110]⟩:ByteArray) (⟨#[111,110]⟩:ByteArray) 1,?_⟩
  conv=>whnf
  repeat (refine And.intro (by omega) ?_;conv=>whnf)
  refine .inl ⟨_,Z00g (⟨#[111,102,102]⟩:ByteArray) (⟨#[111,110]⟩:ByteArray) 0,?_⟩
  conv=>whnf
  repeat (refine And.intro (by omega) ?_;conv=>whnf)
  refine .inl ⟨_,Z00e (⟨#[108,101,118,101,108]⟩:ByteArray) 0 100 true,?_⟩
  conv=>whnf
  repeat (refine And.intro (by omega) ?_;conv=>whnf)
  refine .inl ⟨_,Z00e (⟨#[116,111]⟩:ByteArray) 0 100 false,?_⟩
  conv=>whnf
  repeat (refine And.intro (by omega) ?_;conv=>whnf)
  refine .inl ⟨_,Z00d (⟨#[108,111,99,107,101,100]⟩:ByteArray) true true,?_⟩
  conv=>whnf
  repeat (refine And.intro (by omega) ?_;conv=>whnf)
  refine .inl ⟨_,Z00g (⟨#[108,111,99,107]⟩:ByteArray) (⟨#[108,111,99,107,101,100]⟩:ByteArray) 1,?_⟩
  conv=>whnf
  repeat (refine And.intro (by omega) ?_;conv=>whnf)
  refine .inl ⟨_,Z00g (⟨#[117,110,108,111,99,107]⟩:ByteArray) (⟨#[108,111,99,107,101,100]⟩:ByteArray) 0,?_⟩
  conv=>whnf
  repeat (refine And.intro (by omega) ?_;conv=>whnf)
  refine .inl ⟨_,Z00e (⟨#[116,97,114,103,101,116]⟩:ByteArray) 50 300 true,?_⟩
  conv=>whnf
  repeat (refine And.intro (by omega) ?_;conv=>whnf)
  refine .inl ⟨_,Z00e (⟨#[116,101,109,112]⟩:ByteArray) (-500) 1000 false,?_⟩
  conv=>whnf
  repeat (refine And.intro (by omega) ?_;conv=>whnf)
  refine .inl ⟨_,Z00d (⟨#[97,108,97,114,109]⟩:ByteArray) false true,?_⟩
  conv=>whnf
  repeat (refine And.intro (by omega) ?_;conv=>whnf)
  refine .inl ⟨_,Z00d (⟨#[119,101,116]⟩:ByteArray) false true,?_⟩
  conv=>whnf
  repeat (refine And.intro (by omega) ?_;conv=>whnf)
  refine .inl ⟨_,Z00d (⟨#[111,112,101,110]⟩:ByteArray) true true,?_⟩
  conv=>whnf
  repeat (refine And.intro (by omega) ?_;conv=>whnf)
  refine .inl ⟨_,Z00g (⟨#[111,112,101,110]⟩:ByteArray) (⟨#[111,112,101,110]⟩:ByteArray) 1,?_⟩
  conv=>whnf
  repeat (refine And.intro (by omega) ?_;conv=>whnf)
  refine .inl ⟨_,Z00g (⟨#[99,108,111,115,101]⟩:ByteArray) (⟨#[111,112,101,110]⟩:ByteArray) 0,?_⟩
  conv=>whnf
  repeat (refine And.intro (by omega) ?_;conv=>whnf)
  refine .inl ⟨_,Z00e (⟨#[112,111,119,101,114]⟩:ByteArray) 0 100000 false,?_⟩
  conv=>whnf
  repeat (refine And.intro (by omega) ?_;conv=>whnf)
  repeat' (first|exact PSub.rfl|exact PSub.nil_ro _ _|exact PSub.lit_sb rfl|exact trivial|exact Z085|refine PSub.agg ?_|refine PSub.ro rfl ?_|refine Z084 ?_ ?_|refine And.intro ?_ ?_)
def homeX:Hom:=⟨stdC,[⟨1,0,0,false,0,(⟨#[104,97,108,108]⟩:ByteArray),[(⟨#[111,110,111,102,102]⟩:ByteArray),(⟨#[108,101,118,101,108]⟩:ByteArray)]⟩]⟩
end Go.Abs
namespace Go.Abs
open Go.Proofs
set_option maxRecDepth 10000
def kLev:Key:=⟨1,(⟨#[108,101,118,101,108]⟩:ByteArray),(⟨#[108,101,118,101,108]⟩:ByteArray)⟩
theorem ex1:homE homeX=0:=by kernel_rfl
theorem ex2:initL homeX 1 = [⟨⟨1,(⟨#[111,110,111,102,102]⟩:ByteArray),(⟨#[111,110]⟩:ByteArray)⟩,⟨1,0,⟨#[]⟩⟩,1⟩,⟨kLev,⟨2,0,⟨#[]⟩⟩,2⟩]:=by kernel_rfl
def L1:List Item:=[⟨⟨1,(⟨#[111,110,111,102,102]⟩:ByteArray),(⟨#[111,110]⟩:ByteArray)⟩,⟨1,0,⟨#[]⟩⟩,1⟩,⟨kLev,⟨2,0,⟨#[]⟩⟩,2⟩]
def L2:List Item:=[⟨⟨1,(⟨#[111,110,111,102,102]⟩:ByteArray),(⟨#[111,110]⟩:ByteArray)⟩,⟨1,0,⟨#[]⟩⟩,1⟩,⟨kLev,⟨2,7,⟨#[]⟩⟩,3⟩]
theorem sl {α:Type} {l:List α} (h:Nat.ble l.length 1048576=true):smallL l:=Nat.le_of_ble_eq_true h
theorem Z0te:∀ i,smallK (stdC.getD i default):=by
 intro i
 have key:∀ c ∈ stdC,smallK c:=by
  intro c hc
  simp only [stdC,List.mem_cons,List.not_mem_nil,or_false] at hc
  have dA:∀ i,smallA (List.getD [] i (default:Attr)):=fun i=>Nat.zero_le _
  have dC:∀ i,smallC (List.getD [] i (default:Cmd)):=fun i=>⟨Nat.zero_le _,Nat.zero_le _⟩
  have A1:∀ (a:Attr),smallA a→∀ i,smallA (List.getD [a] i default):=fun a h i=>by cases i with|zero=>exact h|succ i=>exact Nat.zero_le _
  have A2:∀ (a b:Attr),smallA a→smallA b→∀ i,smallA (List.getD [a,b] i default):=fun a b h h2 i=>by cases i with|zero=>exact h|succ i=>exact A1 b h2 i
  have C2:∀ (a b:Cmd),smallC a→smallC b→∀ i,smallC (List.getD [a,b] i default):=fun a b h h2 i=>by
   cases i with
   |zero=>exact h
   |succ i=>cases i with
    |zero=>exact h2
    |succ i=>exact⟨Nat.zero_le _,Nat.zero_le _⟩
  have C3:∀ (a b c:Cmd),smallC a→smallC b→smallC c→∀ i,smallC (List.getD [a,b,c] i default):=fun a b c h h2 h3 i=>by cases i with|zero=>exact h|succ i=>exact C2 b c h2 h3 i
  have f:∀ s w sf,smallA (flagA s w sf):=fun _ _ _=>Nat.zero_le _
  have n:∀ s lo hi w,smallA (numA s lo hi w):=fun _ _ _ _=>Nat.zero_le _
  have c1:∀ s a k,smallC (setsC s a k):=fun _ _ _=>⟨Nat.zero_le _,sl rfl⟩
  have c2:∀ s a e,smallA a→smallC ⟨s,a,[e]⟩:=fun _ _ _ h=>⟨h,sl rfl⟩
  rcases hc with rfl|rfl|rfl|rfl|rfl|rfl|rfl|rfl
  all_goals refine⟨sl rfl,?_,sl rfl,?_,sl rfl⟩
  all_goals first
   |exact dA|exact dC|exact A1 _ (f _ _ _)|exact A1 _ (n _ _ _ _)|exact A2 _ _ (n _ _ _ _) (n _ _ _ _)
   |exact C2 _ _ (c1 _ _ _) (c1 _ _ _)|exact C2 _ _ (c2 _ _ _ (n _ _ _ _)) (c2 _ _ _ (Nat.zero_le _))|exact C3 _ _ _ (c1 _ _ _) (c1 _ _ _) (c2 _ _ _ (Nat.zero_le _))
 by_cases h:i < stdC.length
 ·have:stdC.getD i default=stdC[i]:=by simp [List.getD,h]
  rw [this];exact key _ (List.getElem_mem h)
 ·have:stdC.getD i default=default:=by simp [List.getD,Nat.le_of_not_lt h]
  rw [this];exact⟨Nat.zero_le _,fun _=>Nat.zero_le _,Nat.zero_le _,fun _=>⟨Nat.zero_le _,Nat.zero_le _⟩,Nat.zero_le _⟩
end Go.Abs
namespace Go.Abs
open Go.Proofs Go.RowKit
set_option maxRecDepth 10000
section
variable {H:Type} {enc:TypeId × Value→H} {w:World} {bulk:DataW H→Nat}
abbrev BB:Nat:=1048576
def inI64 (n:Int):Prop:=-9223372036854775808≤n∧n≤9223372036854775807
theorem wf64 {n:Int} (h:(Lit.int .i64 n).wf=true):inI64 n:=by
 simp only [Lit.wf,Bool.and_eq_true,decide_eq_true_eq] at h
 exact h
theorem op_int:Opens enc Tryz.prog w bulk BB 3 cint inI64:=(Opens.int Tryz.underlying3).imp id (fun _=>rfl) (fun _ h=>wf64 h)
theorem Z0nw (hB:BulkOk bulk):Opens enc Tryz.prog w bulk BB 9 cstr (fun s=>s.size≤1048576):=Opens.str hB Tryz.underlying9
theorem Z0nu (hB:BulkOk bulk):Opens enc Tryz.prog w bulk BB 26 (fun l:List ByteArray=>[roL 1 cstr l]) smallL:=
 (Opens.slice hB Tryz.underlying26 (by kernel_rfl) (by decide) (Z0nw hB)).imp id (fun _=>rfl) (fun _ h=>h.1)
def goodKey (k:Key):Prop:=inI64 k.dev
theorem op_Key (hB:BulkOk bulk):Opens enc Tryz.prog w bulk BB 58 cKey goodKey:=
 (Opens.struct hB Tryz.underlying58 (by kernel_rfl) (.cons (size:=1) rfl (by kernel_rfl) op_int (.cons (size:=1) rfl (by kernel_rfl) (Z0nw hB) (.cons (size:=1) rfl (by kernel_rfl) (Z0nw hB) .nil)))).imp (fun x=>⟨x.1,x.2.1,x.2.2.1⟩) (fun _=>rfl) (fun _ h=>h.1)
def goodVal (v:Val):Prop:=inI64 v.kind∧inI64 v.n
theorem Z0nb (hB:BulkOk bulk):Opens enc Tryz.prog w bulk BB 56 cVal goodVal:=
 (Opens.struct hB Tryz.underlying56 (by kernel_rfl) (.cons (size:=1) rfl (by kernel_rfl) op_int (.cons (size:=1) rfl (by kernel_rfl) op_int (.cons (size:=1) rfl (by kernel_rfl) (Z0nw hB) .nil)))).imp (fun x=>⟨x.1,x.2.1,x.2.2.1⟩) (fun _=>rfl) (fun _ h=>⟨h.1,h.2.1⟩)
end
end Go.Abs
namespace Go.Proofs.YtipbekclhmbclaaGreatDoor
open Go.ChangeShapes Go.WideShapes Go.ChangeAt Go.RowKit Go.Abs
theorem own:ownKnob Tryz.prog.godebug=none:=by kernel_rfl
theorem laidOut:laidOutB Tryz.prog=true:=by kernel_rfl
theorem glob {W:World} (h:laidMetH Tryz.prog [("homehub/cluster.standard",Rows.laid_homehub_cluster_standard)] W):Glob W (fun _=>False):=by
 intro g cs hg
 have h0:g=0∧cs=glob0.map fun s=>.val (.string s):=by
  simp only [Globals.get] at hg
  split at hg
  ·rename_i e;exact⟨by simpa [Nat.beq_eq] using e,by cases hg;rfl⟩
  ·cases hg
 obtain⟨rfl,rfl⟩:=h0
 exact strTab (name:="homehub/cluster.standard") (ss:=glob0) (rest:=[]) (g:=0) (t:=153) (e:=9) (n:=8) (by kernel_rfl) (by kernel_rfl) Tryz.underlying153 Tryz.underlying9 (by kernel_rfl) (by kernel_rfl) (by decide) h
noncomputable def laidWorld (os:Os):World:=
 { World.holding Tryz.prog os ⟨#[],#[],[]⟩ with heap:=(World.holding Tryz.prog os ⟨#[],#[],[]⟩).heap.modify 0 fun
   | .cells _ t frozen=>.cells (glob0.map fun s=>Value.string s).toArray t frozen
   |o=>o }
theorem bulkOk {H:Type}:BulkOk (Rows.uptoBulk (H:=H)):=by
 have one_le:∀ d:DataW H,1≤Rows.uptoBulk d:=fun d=>by
  cases d with
  |lit l=>cases l<;>simp [Rows.uptoBulk]
  |nil=>simp [Rows.uptoBulk]
  |ptr d=>simp [Rows.uptoBulk]
  |slice elems spare=>simp [Rows.uptoBulk]
  |agg parts=>simp [Rows.uptoBulk]
  |iface t d=>simp [Rows.uptoBulk]
  |map entries=>simp [Rows.uptoBulk]
  |held h=>simp [Rows.uptoBulk]
 have part_le:∀ (l:List (DataW H)) (d:DataW H),d ∈ l→Rows.uptoBulk d≤Rows.uptoBulkAll l:=by
  intro l
  induction l with
  |nil=>intro d h;cases h
  |cons x r ih=>
   intro d h
   simp only [Rows.uptoBulkAll]
   cases List.mem_cons.1 h with
   |inl e=>subst e;omega
   |inr e=>have:=ih d e;omega
 have length_le:∀ (l:List (DataW H)),l.length≤Rows.uptoBulkAll l:=by
  intro l
  induction l with
  |nil=>simp [Rows.uptoBulkAll]
  |cons x r ih=>have:=one_le x;simp only [Rows.uptoBulkAll,List.length_cons];omega
 refine⟨fun bytes=>by simp [Rows.uptoBulk],fun e s=>?_,fun e s d h=>?_,fun l d h=>?_⟩
 ·have:=length_le e;simp only [Rows.uptoBulk];omega
 ·have:=part_le e d h;simp only [Rows.uptoBulk];omega
 ·have:=part_le l d h;simp only [Rows.uptoBulk];omega
theorem Z0ae {H:Type} {l:List (DataW H)} (hk:Rows.uptoSmall H l=true):Rows.uptoBulkAll l≤1048576:=of_decide_eq_true hk
theorem Z0jv {f:FuncId} {fn:Func} {H:Type} {enc:TypeId × Value→H} {W:World} {args:Array Value} {ds gs:List (DataW H)} {before:List MemPlace} {s:ChangeSpec} {tb:TypeId} {xs:List PV}
  (hac:AC Tryz.prog f (xs.map .pv) [] (.pv (vbool true)) []) (hlen:args.size=xs.length) (hx:∀ (i:Nat) (p:PV),xs[i]? = some p→PR W (fun _=>False) p (args.getD i undef))
  (hr:∀ t ∈ fn.params.toList,Tryz.prog.readableRec t=true∧t < Tryz.prog.types.size)
  (hres:fn.resultTypes=#[tb]) (htb:Tryz.prog.underlying tb=some .bool) (hv:s.vars = []) (hfn:s.fn H ds ={ results:=[.lit (.bool true)],args:=ds })
  (hW:DataW.Whole enc Tryz.prog fn.params.toList s.vars false W args.toList ds gs before) (hg:Glob W (fun _=>False)) :
  Calls Tryz.prog f args W fun e W'=>∃ v,e = .returned v∧s.post enc Tryz.prog fn false true false false W args v W':=by
 refine(hac.calls hg (by simpa using hlen) (fun i x e=>?_)).mono ?_
 ·rw [List.getElem?_map] at e
  cases hp:xs[i]? with
  |none=>rw [hp] at e;cases e
  |some p=>
   rw [hp] at e
   cases e
   exact .pv _ _ (hx i p hp)
 ·rintro e W' ⟨v,rfl,hv2,hb⟩
  cases hv2
  exact⟨_,rfl,Z0jw laidOut hr hres htb hv hfn hb hW⟩
end Go.Proofs.YtipbekclhmbclaaGreatDoor
namespace Go.Abs
variable [Globals]
inductive Ex where
 |mk (kind n m:Int) (name:ByteArray) (value:Val) (key:Key) (kids:List Ex)
namespace Ex
def kind:Ex→Int|mk k _ _ _ _ _ _=>k
def n:Ex→Int|mk _ n _ _ _ _ _=>n
def m:Ex→Int|mk _ _ m _ _ _ _=>m
def name:Ex→ByteArray|mk _ _ _ s _ _ _=>s
def value:Ex→Val|mk _ _ _ _ v _ _=>v
def key:Ex→Key|mk _ _ _ _ _ k _=>k
def kids:Ex→List Ex|mk _ _ _ _ _ _ l=>l
end Ex
abbrev noKey:Key:=⟨0,⟨#[]⟩,⟨#[]⟩⟩
abbrev noEx:Ex:=.mk 0 0 0 ⟨#[]⟩ ⟨0,0,⟨#[]⟩⟩ ⟨0,⟨#[]⟩,⟨#[]⟩⟩ []
instance:Inhabited Ex:=⟨noEx⟩
mutual
def encE:Ex→List PV
 | .mk k n m s v q l=>[vint k,vint n,vint m,vstr s,vint v.kind,vint v.n,vstr v.s,vint q.dev,vstr q.cluster,vstr q.attr,.ro 11 l.length (encK l)]
/-- the cells of the kids -/
def encK:List Ex→Nat→List PV
 | [],_=>[]
 |e :: _,0=>encE e
 |_ :: l,i+1=>encK l i
end
def cEx (e:Ex):List PV:=[vint e.kind,vint e.n,vint e.m,vstr e.name,vint e.value.kind,vint e.value.n,vstr e.value.s,vint e.key.dev,vstr e.key.cluster,vstr e.key.attr,.ro 11 e.kids.length (encK e.kids)]
theorem Z0ck (e:Ex):encE e=cEx e:=by cases e;rfl
theorem Z0cl:∀ {l:List Ex} {i:Nat},i < l.length→encK l i=cEx (l.getD i default)
 |e :: l,0,_=>by rw [encK,Z0ck];rfl
 |e :: l,i+1,h=>by
  rw [encK,Z0cl (l:=l) (by simpa using h)]
  rfl
theorem PSub.kids {l:List Ex}:PSub (.ro 11 l.length (encK l)) (roL 11 cEx l):=PSub.ro (Eq.refl _) fun i hi=>by rw [Z0cl hi];exact PSubs.rfl
theorem PSub.kids' {l:List Ex}:PSub (roL 11 cEx l) (.ro 11 l.length (encK l)):=PSub.ro (Eq.refl _) fun i hi=>by rw [Z0cl hi];exact PSubs.rfl
def cEx1 (e:Ex):List PV:=[vint e.kind,vint e.n,vint e.m,vstr e.name,vint e.value.kind,vint e.value.n,vstr e.value.s,vint e.key.dev,vstr e.key.cluster,vstr e.key.attr,roL 11 cEx e.kids]
theorem PSub.ex1 {e:Ex}:PSub (.agg (cEx e)) (.agg (cEx1 e)):=PSub.agg ⟨PSub.rfl,PSub.rfl,PSub.rfl,PSub.rfl,PSub.rfl,PSub.rfl,PSub.rfl,PSub.rfl,PSub.rfl,PSub.rfl,PSub.kids,trivial⟩
theorem PSub.ex1' {e:Ex}:PSub (.agg (cEx1 e)) (.agg (cEx e)):=PSub.agg ⟨PSub.rfl,PSub.rfl,PSub.rfl,PSub.rfl,PSub.rfl,PSub.rfl,PSub.rfl,PSub.rfl,PSub.rfl,PSub.rfl,PSub.kids',trivial⟩
structure ASub (x y:AV):Prop where
 to:∀ (P:Program) (w:World) (St M:Nat→Prop) (σ:Sig) (v:Value),AR P w St M σ x v→AR P w St M σ y v
theorem ASub.rfl {x:AV}:ASub x x:=⟨fun _ _ _ _ _ _ h=>h⟩
theorem ASub.pv {p q:PV} (h:PSub p q):ASub (.pv p) (.pv q):=⟨fun _ _ _ _ _ _ k=>.pv _ _ (h.to _ _ _ (arg_pv k))⟩
def ASubs:List AV→List AV→Prop
 | [],[]=>True
 |x :: xs,y :: ys=>ASub x y∧ASubs xs ys
 |_,_=>False
theorem ASubs.get:∀ {xs ys:List AV},ASubs xs ys→xs.length=ys.length∧∀ (i:Nat) (y:AV),ys[i]? = some y→∃ x,xs[i]? = some x∧ASub x y
 | [],[],_=>⟨Eq.refl _,fun i y e=>by simp at e⟩
 |x :: xs,y :: ys,h=>by
  obtain⟨h1,h2⟩:=ASubs.get h.2
  refine⟨by simp [h1],fun i z e=>?_⟩
  cases i with
  |zero=>simp at e;subst e;exact⟨x,by simp,h.1⟩
  |succ i=>simpa using h2 i z (by simpa using e)
 | [],_ :: _,h=>h.elim
 |_ :: _,[],h=>h.elim
theorem AC.subA {P:Program} {f:FuncId} {xs ys:List AV} {os os':Upd} {res:AV} (h:AC P f ys os res os') (hs:ASubs xs ys):AC P f xs os res os':=by
 obtain⟨h1,h2⟩:=hs.get
 refine⟨h.1,fun St M0 σ w vals hi hn ho hl ha=>h.2 St M0 σ w vals hi hn ho (by rw [hl,h1]) fun i y e=>?_⟩
 obtain⟨x,hx,hxy⟩:=h2 i y e
 exact hxy.to _ _ _ _ _ _ (ha i x hx)
theorem AC.ex {P:Program} {f:FuncId} {e:Ex} {r:List AV} {os os':Upd} {res:AV} (h:AC P f (.pv (.agg (cEx1 e)) :: r) os res os'):AC P f (.pv (.agg (cEx e)) :: r) os res os':=by
 have key:∀ r:List AV,ASubs r r:=fun r=>by induction r with|nil=>trivial|cons x r ih=>exact⟨ASub.rfl,ih⟩
 exact h.subA ⟨ASub.pv PSub.ex1,key r⟩
theorem AC.ex' {P:Program} {f:FuncId} {e:Ex} {r:List AV} {os os':Upd} {res:AV} (h:AC P f (.pv (.agg (cEx e)) :: r) os res os'):AC P f (.pv (.agg (cEx1 e)) :: r) os res os':=by
 have key:∀ r:List AV,ASubs r r:=fun r=>by induction r with|nil=>trivial|cons x r ih=>exact⟨ASub.rfl,ih⟩
 exact h.subA ⟨ASub.pv PSub.ex1',key r⟩
theorem AC.ex2 {P:Program} {f:FuncId} {e:Ex} {x:AV} {r:List AV} {os os':Upd} {res:AV} (h:AC P f (x :: .pv (.agg (cEx1 e)) :: r) os res os'):AC P f (x :: .pv (.agg (cEx e)) :: r) os res os':=by
 have key:∀ r:List AV,ASubs r r:=fun r=>by induction r with|nil=>trivial|cons x r ih=>exact⟨ASub.rfl,ih⟩
 exact h.subA ⟨ASub.rfl,ASub.pv PSub.ex1,key r⟩
theorem AC.ex2' {P:Program} {f:FuncId} {e:Ex} {x:AV} {r:List AV} {os os':Upd} {res:AV} (h:AC P f (x :: .pv (.agg (cEx e)) :: r) os res os'):AC P f (x :: .pv (.agg (cEx1 e)) :: r) os res os':=by
 have key:∀ r:List AV,ASubs r r:=fun r=>by induction r with|nil=>trivial|cons x r ih=>exact⟨ASub.rfl,ih⟩
 exact h.subA ⟨ASub.rfl,ASub.pv PSub.ex1',key r⟩
theorem Ex.kid_lt {e:Ex} {k:Ex} (h:k ∈ e.kids):SizeOf.sizeOf k < SizeOf.sizeOf e:=by
 obtain⟨a,b,c,d,v,q,l⟩:=e
 have:=List.sizeOf_lt_of_mem (show k ∈ l from h)
 simp only [Ex.mk.sizeOf_spec]
 omega
theorem Ex.kid_at {l:List Ex} {i:Nat} (h:i < l.length):l.getD i default ∈ l:=by
 have:l.getD i default=l[i]:=by simp [List.getD,h]
 rw [this];exact List.getElem_mem h
def kidsB (k n:Int):Bool:=
 if k=6 then decide (n=1) else if k=7∨k=8 then decide (2≤n) && decide (n≤8) else if 9≤k∧k≤13 then decide (n=2) else if k=14 then decide (n=3) else decide (n=0)
def spareB (e:Ex):Bool:=
 decide (((e.kind≠4∧e.kind≠5∧e.kind≠15)∧e.n≠0)∨(e.kind≠4∧e.m≠0)∨(e.kind≠3∧e.name≠⟨#[]⟩)∨(e.kind≠1∧e.value≠noVal)∨(e.kind≠2∧e.key≠noKey))
def rangeB (e:Ex):Bool:=
 if e.kind=4 then decide (0≤e.n∧e.n < 1440∧0≤e.m∧e.m < 1440) else if e.kind=5 then decide (1≤e.n∧e.n≤127) else if e.kind=15 then decide (0≤e.n∧e.n≤4)
 else if e.kind=2 then decide (1≤e.key.dev∧e.key.dev≤250) else true
def nodeE (e:Ex):Int:=
 if e.kind < 1∨15 < e.kind then 7 else if kidsB e.kind e.kids.length=false∨spareB e=true then 1 else if rangeB e=false then 2
 else if e.kind=3 then (if validName e.name then 0 else 10)
 else if e.kind=2 then (if validName e.key.cluster && validName e.key.attr then 0 else 10)
 else if e.kind=1 then (if valE e.value≠0 then valE e.value else if e.value.kind=0 then 7 else 0)
 else 0
mutual
/-- expr.Check: from the level l and the count c: the count and the error -/
def chkE:Ex→Int→Int→Int × Int
 | .mk a n m s v q ks,l,c=>
  if 24 < l then (c+1,22) else if 200 < c+1 then (c+1,3) else if nodeE (.mk a n m s v q ks)≠0 then (c+1,nodeE (.mk a n m s v q ks)) else chkL ks (l+1) (c+1)
def chkL:List Ex→Int→Int→Int × Int
 | [],_,c=>(c,0)
 |e :: es,l,c=>if (chkE e l c).2≠0 then chkE e l c else chkL es l (chkE e l c).1
end
theorem Z0b0 (e:Ex) (l c:Int):chkE e l c=if 24 < l then (c+1,22) else if 200 < c+1 then (c+1,3) else if nodeE e≠0 then (c+1,nodeE e) else chkL e.kids (l+1) (c+1):=by
 cases e;rw [chkE];rfl
mutual
theorem chkE_b:∀ (e:Ex) (l c:Int),0≤c→c≤200→0≤(chkE e l c).1∧(chkE e l c).1≤201∧((chkE e l c).2=0→(chkE e l c).1≤200)
 | .mk a n m s v q ks,l,c,h0,h1=>by
  rw [chkE]
  split
  ·exact⟨by dsimp only;omega,by dsimp only;omega,fun h=>by cases h⟩
  ·split
   ·exact⟨by dsimp only;omega,by dsimp only;omega,fun h=>by cases h⟩
   ·split
    ·rename_i h;exact⟨by dsimp only;omega,by dsimp only;omega,fun h2=>absurd h2 h⟩
    ·exact chkL_b ks (l+1) (c+1) (by omega) (by omega)
theorem chkL_b:∀ (ks:List Ex) (l c:Int),0≤c→c≤200→0≤(chkL ks l c).1∧(chkL ks l c).1≤201∧((chkL ks l c).2=0→(chkL ks l c).1≤200)
 | [],l,c,h0,h1=>by rw [chkL];exact⟨h0,by dsimp only;omega,fun _=>h1⟩
 |e :: es,l,c,h0,h1=>by
  obtain⟨h2,h3,h4⟩:=chkE_b e l c h0 h1
  rw [chkL]
  split
  ·exact⟨h2,h3,h4⟩
  ·rename_i h;exact chkL_b es l _ h2 (h4 (by simpa using h))
end
theorem Z0lz {e:Ex} (h:nodeE e=0):e.kids.length≤8:=by
 have h2:kidsB e.kind e.kids.length=true:=by
  cases hb:kidsB e.kind e.kids.length with
  |true=>rfl
  |false=>rw [nodeE,hb] at h;split at h<;>simp at h
 unfold kidsB at h2
 (repeat' split at h2)<;>simp only [decide_eq_true_eq,Bool.and_eq_true] at h2<;>omega
theorem Z0ch {α:Type} [Inhabited α] {l:List α} {k:Nat} (h:k < l.length):l.drop k=l.getD k default :: l.drop (k+1):=by
 rw [List.drop_eq_getElem_cons h];simp [List.getD,h]
def exE (e:Ex):Int:=(chkE e 1 0).2
mutual
def sizeE:Ex→Nat
 | .mk _ _ _ _ _ _ ks=>1+sizeL ks
def sizeL:List Ex→Nat
 | []=>0
 |e :: es=>sizeE e+sizeL es
end
theorem Z0t2 (e:Ex):sizeE e=1+sizeL e.kids:=by cases e;rw [sizeE];rfl
end Go.Abs
namespace Go.Abs
structure Sco where
 home:Hom
 modes:List ByteArray
 scenes:List ByteArray
 deriving Inhabited
def cSco (s:Sco):List PV:=[roL 4 cClu s.home.clusters,roL 7 cDev s.home.devices,roL 1 cstr s.modes,roL 1 cstr s.scenes]
def smallS (s:Sco):Prop:=smallH s.home∧smallL s.modes∧smallL s.scenes
def leafK (s:Sco) (kind:Int) (name:ByteArray) (value:Val) (key:Key):Int × Int:=
 if kind=1 then (value.kind,0) else if kind=2 then (if (findA s.home key).isSome=true then (((findA s.home key).getD noAttr).kind,0) else (0,8))
 else if kind=3∧idxOf s.modes name < 0 then (0,8) else (1,0)
def allI (l:List Int) (k:Int):Bool:=l.all fun x=>decide (x=k)
def opK (k:Int) (l:List Int):Int × Int:=
 if k=6∨k=7∨k=8 then (if allI l 1=true then (1,0) else (0,11))
 else if k=9 then (if l.getD 0 default=l.getD 1 default then (1,0) else (0,11))
 else if k=10 then (if allI l 2=true then (1,0) else (0,11))
 else if k=14 then (if l.getD 0 default=1∧l.getD 1 default=l.getD 2 default then (l.getD 1 default,0) else (0,11))
 else (if allI l 2=true then (2,0) else (0,11))
mutual
def kindE (s:Sco):Ex→Int × Int
 | .mk k _ _ nm v q ks=>match ks with
  | []=>leafK s k nm v q
  |e :: es=>match kindL s (e :: es) with
   | .inl x=>(0,x)
   | .inr l=>opK k l
def kindL (s:Sco):List Ex→Int ⊕ List Int
 | []=>.inr []
 |e :: es=>if (kindE s e).2≠0 then .inl (kindE s e).2 else match kindL s es with
  | .inl x=>.inl x
  | .inr l=>.inr ((kindE s e).1 :: l)
end
theorem Z0jm {s:Sco} {e:Ex} (h:e.kids.length=0):kindE s e=leafK s e.kind e.name e.value e.key:=by
 obtain⟨k,n,m,nm,v,q,ks⟩:=e
 have:ks = []:=List.length_eq_zero_iff.1 h
 subst this
 rw [kindE];rfl
theorem Z0jn {s:Sco} {e:Ex} (h:e.kids.length≠0):kindE s e=(match kindL s e.kids with | .inl x=>(0,x) | .inr l=>opK e.kind l):=by
 obtain⟨k,n,m,nm,v,q,ks⟩:=e
 cases ks with
 |nil=>exact absurd rfl h
 |cons e es=>rw [kindE];rfl
def KTo (s:Sco) (ks:List Ex) (k:Nat) (acc:List Int):Prop:=acc.length=k∧kindL s ks=match kindL s (ks.drop k) with | .inl x=>.inl x | .inr r=>.inr (acc ++ r)
theorem KTo.zero (s:Sco) (ks:List Ex):KTo s ks 0 []:=⟨rfl,by simp only [List.drop_zero,List.nil_append];cases kindL s ks<;>rfl⟩
theorem KTo.err {s:Sco} {ks:List Ex} {k:Nat} {acc:List Int} (h:KTo s ks k acc) (hk:k < ks.length) (he:(kindE s (ks.getD k default)).2≠0):kindL s ks = .inl (kindE s (ks.getD k default)).2:=by
 have h2:=h.2
 rw [Z0ch hk,kindL,if_pos he] at h2
 exact h2
theorem KTo.next {s:Sco} {ks:List Ex} {k:Nat} {acc:List Int} (h:KTo s ks k acc) (hk:k < ks.length) (he:(kindE s (ks.getD k default)).2=0):KTo s ks (k+1) (acc ++ [(kindE s (ks.getD k default)).1]):=by
 have h2:=h.2
 rw [Z0ch hk,kindL,if_neg (by simpa using he)] at h2
 refine⟨by simp [h.1],h2.trans ?_⟩
 cases kindL s (ks.drop (k+1))<;>simp
theorem KTo.done {s:Sco} {ks:List Ex} {k:Nat} {acc:List Int} (h:KTo s ks k acc) (hk:ks.length≤k):kindL s ks = .inr acc:=by
 have h2:=h.2
 rw [List.drop_of_length_le hk,kindL] at h2
 simpa using h2
mutual
/-- the right numbers of kids all over -/
def okE:Ex→Prop
 | .mk k _ _ _ _ _ ks=>(1≤k∧k≤15)∧kidsB k ks.length=true∧okL ks
def okL:List Ex→Prop
 | []=>True
 |e :: es=>okE e∧okL es
end
theorem Z0me (e:Ex):okE e↔(1≤e.kind∧e.kind≤15)∧kidsB e.kind e.kids.length=true∧okL e.kids:=by cases e;rw [okE];rfl
theorem okL_at:∀ {l:List Ex} {k:Nat},okL l→k < l.length→okE (l.getD k default)
 |e :: l,0,h,_=>by rw [okL] at h;exact h.1
 |e :: l,k+1,h,hk=>by rw [okL] at h;exact okL_at (l:=l) h.2 (by simpa using hk)
theorem Z0m2 {e:Ex} (h:nodeE e=0):(1≤e.kind∧e.kind≤15)∧kidsB e.kind e.kids.length=true:=by
 unfold nodeE at h
 split at h
 ·cases h
 ·rename_i h1
  split at h
  ·cases h
  ·rename_i h2
   exact⟨by omega,by cases hb:kidsB e.kind e.kids.length<;>simp_all⟩
mutual
theorem chk_ok:∀ (e:Ex) (l c:Int),(chkE e l c).2=0→okE e
 | .mk a n m s v q ks,l,c,h=>by
  rw [chkE] at h
  split at h
  ·cases h
  ·split at h
   ·cases h
   ·split at h
    ·rename_i h3;exact absurd h h3
    ·rename_i h3
     have h4:=Z0m2 (e:=.mk a n m s v q ks) (by simpa using h3)
     rw [okE]
     exact⟨h4.1,h4.2,Z0b3 ks _ _ h⟩
theorem Z0b3:∀ (ks:List Ex) (l c:Int),(chkL ks l c).2=0→okL ks
 | [],l,c,_=>by rw [okL];trivial
 |e :: es,l,c,h=>by
  rw [chkL] at h
  rw [okL]
  split at h
  ·rename_i h1;exact absurd h h1
  ·rename_i h1;exact⟨chk_ok e l c (by simpa using h1),Z0b3 es l _ h⟩
end
theorem exE_ok {e:Ex} (h:exE e=0):okE e:=chk_ok e 1 0 h
def exprK (s:Sco) (e:Ex):Int × Int:=if exE e≠0 then (0,exE e) else kindE s e
end Go.Abs
namespace Go.Abs
structure Evt where
 dev:Int
 cluster:ByteArray
 name:ByteArray
 deriving Inhabited,DecidableEq
abbrev noEvt:Evt:=⟨0,⟨#[]⟩,⟨#[]⟩⟩
structure Trg where
 kind:Int
 key:Key
 event:Evt
 name:ByteArray
 n:Int
 m:Int
 deriving Inhabited,DecidableEq
structure Stp where
 kind:Int
 key:Key
 name:ByteArray
 expr:Ex
 deriving Inhabited
structure Rul where
 name:ByteArray
 prio:Int
 on:List Trg
 cond:Ex
 steps:List Stp
 deriving Inhabited
def cTrg (t:Trg):List PV:=[vint t.kind,vint t.key.dev,vstr t.key.cluster,vstr t.key.attr,vint t.event.dev,vstr t.event.cluster,vstr t.event.name,vstr t.name,vint t.n,vint t.m]
def cStp (x:Stp):List PV:=vint x.kind :: vint x.key.dev :: vstr x.key.cluster :: vstr x.key.attr :: vstr x.name :: cEx x.expr
def cRul (r:Rul):List PV:=vstr r.name :: vint r.prio :: roL 10 cTrg r.on ::(cEx r.cond ++ [roL 16 cStp r.steps])
def zeroX (e:Ex):Bool:=decide (e.kind=0∧e.n=0∧e.m=0∧e.name=⟨#[]⟩∧e.value=noVal∧e.key=noKey∧e.kids.length=0)
def cEx0:List PV:=[vint 0,vint 0,vint 0,vstr ⟨#[]⟩,vint 0,vint 0,vstr ⟨#[]⟩,vint 0,vstr ⟨#[]⟩,vstr ⟨#[]⟩,.val (.slice none 0 0)]
def wordsE (l:List ByteArray):Int:=firstE l.length fun i=>if validName (l.getD i default)=false then 10 else if idxOf l (l.getD i default) < i then 9 else 0
def scoE (s:Sco):Int:=
 if homE s.home≠0 then homE s.home else if s.modes.length < 1∨16 < s.modes.length then 3 else if wordsE s.modes≠0 then wordsE s.modes else if 256 < s.scenes.length then 3 else wordsE s.scenes
def trgSpare (t:Trg):Bool:=
 decide ((t.kind=1∨t.key=noKey)∧(t.kind=2∨t.event=noEvt)∧(t.kind=4∨t.name=⟨#[]⟩)∧(t.kind=3∨t.kind=6∨t.n=0)∧(t.kind=3∨t.m=0))
def namedE (dev:Int) (a b:ByteArray):Int:=if dev < 1∨250 < dev then 2 else if validName a && validName b then 0 else 10
def trgE (t:Trg):Int:=
 if t.kind < 1∨6 < t.kind then 7 else if trgSpare t=false then 1
 else if t.kind=1 then namedE t.key.dev t.key.cluster t.key.attr
 else if t.kind=2 then namedE t.event.dev t.event.cluster t.event.name
 else if t.kind=3 then (if t.n < 0∨1440≤t.n∨t.m < 1∨127 < t.m then 2 else 0)
 else if t.kind=6 then (if t.n < 0∨1099511627776 < t.n then 2 else 0)
 else if t.kind=4 then (if t.name≠⟨#[]⟩∧validName t.name=false then 10 else 0) else 0
def stpE (x:Stp):Int:=
 if x.kind=1 then (if x.name≠⟨#[]⟩ then 1 else if namedE x.key.dev x.key.cluster x.key.attr≠0 then namedE x.key.dev x.key.cluster x.key.attr else exE x.expr)
 else if x.kind=2 then (if x.key.attr≠⟨#[]⟩ then 1 else if namedE x.key.dev x.key.cluster x.name≠0 then namedE x.key.dev x.key.cluster x.name else if zeroX x.expr=true then 0 else exE x.expr)
 else if x.kind=3∨x.kind=4∨x.kind=5 then (if x.key≠noKey∨zeroX x.expr=false then 1 else if x.kind=5 then (if 60 < x.name.size then 3 else 0) else if validName x.name=false then 10 else 0)
 else 7
def rulE (r:Rul):Int:=
 if validName r.name=false then 10 else if r.prio < 0∨100 < r.prio then 2
 else if r.on.length < 1∨8 < r.on.length∨r.steps.length < 1∨8 < r.steps.length then 3
 else if firstE r.on.length (fun i=>trgE (r.on.getD i default))≠0 then firstE r.on.length fun i=>trgE (r.on.getD i default)
 else if exE r.cond≠0 then exE r.cond else firstE r.steps.length fun i=>stpE (r.steps.getD i default)
end Go.Abs
namespace Go.Abs
theorem Z0ag:∀ (x y:List UInt8),Op.bytesLess x y=true↔x < y
 | [],[]=>by simp [Op.bytesLess]
 | [],_ :: _=>by simp [Op.bytesLess]
 |_ :: _,[]=>by simp [Op.bytesLess]
 |a :: x,b :: y=>by
  have ih:=Z0ag x y
  simp only [Op.bytesLess,List.cons_lt_cons_iff]
  by_cases h1:a < b
  ·simp [h1]
  ·by_cases h2:a=b
   ·subst h2;simp [ih]
   ·simp [h1,h2,ih]
    try (intro h3;exact h2 (UInt8.le_antisymm (UInt8.not_lt.1 h3) (UInt8.not_lt.1 h1)))
def sLt (a b:ByteArray):Bool:=Op.bytesLess a.toList b.toList
theorem Z0s5 {a b:ByteArray}:sLt a b=true↔a.data.toList < b.data.toList:=by
 unfold sLt
 rw [Z0ag,ByteArray.toList_eq,ByteArray.toList_eq]
theorem Z0s6 (a:ByteArray):sLt a a=false:=by
 rw [←Bool.not_eq_true,Z0s5]
 exact List.lt_irrefl _
theorem Z0s8 {a b c:ByteArray} (h:sLt a b=true) (k:sLt b c=true):sLt a c=true:=by
 rw [Z0s5] at *
 exact List.lt_trans h k
theorem Z0s4 {a b:ByteArray} (h:sLt a b=true):sLt b a=false:=by
 rw [←Bool.not_eq_true]
 intro k
 have:=Z0s8 h k
 rw [Z0s6] at this;cases this
theorem Z0s7 {a b:ByteArray} (h:a≠b):sLt a b=true∨sLt b a=true:=by
 rw [Z0s5,Z0s5]
 rcases Classical.em (a.data.toList < b.data.toList) with h1|h1
 ·exact .inl h1
 ·rcases Classical.em (b.data.toList < a.data.toList) with h2|h2
  ·exact .inr h2
  ·exfalso
   apply h
   have:=List.le_antisymm (List.not_lt.1 h1) (List.not_lt.1 h2)
   cases a;cases b
   congr 1
   exact(Array.toList_inj.1 this).symm
end Go.Abs
namespace Go.Abs
open Go.Proofs
set_option maxRecDepth 10000
theorem Z0j0 (a b:Key):keyLess a b=if a.dev≠b.dev then decide (a.dev < b.dev) else if a.cluster≠b.cluster then sLt a.cluster b.cluster else sLt a.attr b.attr:=rfl
theorem Z0j1 (a:Key):keyLess a a=false:=by
 rw [Z0j0];simp [Z0s6]
theorem Z0j2 {a b:Key} (h:a≠b):keyLess a b=true∨keyLess b a=true:=by
 rw [Z0j0,Z0j0]
 by_cases h1:a.dev=b.dev
 ·by_cases h2:a.cluster=b.cluster
  ·by_cases h3:a.attr=b.attr
   ·exfalso;apply h;cases a;cases b;simp_all
   ·simp [h1,h2];exact Z0s7 h3
  ·simp [h1,h2,Ne.symm h2];exact Z0s7 h2
 ·simp [h1,Ne.symm h1];omega
theorem Z0j3 {a b c:Key} (h:keyLess a b=true) (k:keyLess b c=true):keyLess a c=true:=by
 rw [Z0j0] at *
 by_cases h1:a.dev=b.dev<;>by_cases k1:b.dev=c.dev
 ·by_cases h2:a.cluster=b.cluster<;>by_cases k2:b.cluster=c.cluster
  ·simp_all;exact Z0s8 h k
  ·simp_all
  ·have:a.cluster≠c.cluster:=fun e=>h2 (e.trans k2.symm)
   simp_all
  ·have h3:sLt a.cluster b.cluster=true:=by simp_all
   have k3:sLt b.cluster c.cluster=true:=by simp_all
   have t:=Z0s8 h3 k3
   have:a.cluster≠c.cluster:=fun e=>by rw [e,Z0s6] at t;cases t
   simp [h1,k1,this];exact t
 ·simp [h1,k1] at h k ⊢;exact k
 ·have:a.dev≠c.dev:=fun e=>h1 (e.trans k1.symm)
  simp [h1] at h
  simp [this];omega
 ·simp [h1] at h
  simp [k1] at k
  have:a.dev≠c.dev:=by omega
  simp [this];omega
theorem key_eq (a b:Key):(decide (a.dev=b.dev) && (decide (a.cluster=b.cluster) && (decide (a.attr=b.attr) && true)))=decide (a=b):=by
 obtain⟨a1,a2,a3⟩:=a
 obtain⟨b1,b2,b3⟩:=b
 rw [Bool.eq_iff_iff];simp
end Go.Abs
namespace Go.Abs
open Go.Proofs
set_option maxRecDepth 10000
theorem Z0yp (a:Val):(decide (a.kind=0) && (decide (a.n=0) && decide (a.s=⟨#[]⟩)))=decide (a=noVal):=by have:=val_eq a noVal;simp only [Bool.and_true] at this;exact this
theorem Z0j4 (a:Key):(decide (a.dev=0) && (decide (a.cluster=⟨#[]⟩) && decide (a.attr=⟨#[]⟩)))=decide (a=noKey):=by have:=key_eq a noKey;simp only [Bool.and_true] at this;exact this
theorem Z019 (k n:Int):AC Tryz.prog 207 [.pv (vint k),.pv (vint n)] [] (.pv (vbool (kidsB k n))) []:=by
 refine AC.of_awp (T:=T) T_ok hm Tryz.call207 Tryz.func207 rfl rfl rfl ?_
 conv=>whnf
 repeat (any_goals (first
  |(refine⟨fun(h:(_:Bool)=true)=>?_,fun(h:(_:Bool)=false)=>?_⟩<;>(try simp only [Q0,Q1,Q2,Q3,Q4,Q5,Q6,Q7,Q8,reduceCtorEq] at h)<;>(conv=>whnf))))
 all_goals first
  |contradiction
  |(exfalso;omega)
  |exact PSub.rfl
  |(refine PSub.lit_sb ?_;(first|(simp [kidsB, *];done)|(simp_all [kidsB];done)|((try simp only [kidsB]);(repeat' split)<;>(try simp only [Bool.false_eq,Bool.true_eq,Bool.and_eq_false_iff,decide_eq_false_iff_not,Bool.and_eq_true,decide_eq_true_eq,decide_eq_decide])<;>first|rfl|omega|(simp_all;done)|(simp_all;omega))))
  |(refine PSub.sb ?_;(first|(simp [kidsB, *];done)|(simp_all [kidsB];done)|((try simp only [kidsB]);(repeat' split)<;>(try simp only [Bool.false_eq,Bool.true_eq,Bool.and_eq_false_iff,decide_eq_false_iff_not,Bool.and_eq_true,decide_eq_true_eq,decide_eq_decide])<;>first|rfl|omega|(simp_all;done)|(simp_all;omega))))
  |(refine PSub.sb_lit ?_;(first|(simp [kidsB, *];done)|(simp_all [kidsB];done)|((try simp only [kidsB]);(repeat' split)<;>(try simp only [Bool.false_eq,Bool.true_eq,Bool.and_eq_false_iff,decide_eq_false_iff_not,Bool.and_eq_true,decide_eq_true_eq,decide_eq_decide])<;>first|rfl|omega|(simp_all;done)|(simp_all;omega))))
  |(refine PSub.int ?_;(first|(simp [kidsB, *];done)|(simp_all [kidsB];done)|((try simp only [kidsB]);(repeat' split)<;>(try simp only [Bool.false_eq,Bool.true_eq,Bool.and_eq_false_iff,decide_eq_false_iff_not,Bool.and_eq_true,decide_eq_true_eq,decide_eq_decide])<;>first|rfl|omega|(simp_all;done)|(simp_all;omega))))
  |skip
theorem Z01c (e:Ex):AC Tryz.prog 208 [.pv (.agg (cEx e))] [] (.pv (vbool (spareB e))) []:=by
 refine AC.of_awp (T:=T) T_ok hm Tryz.call208 Tryz.func208 rfl rfl rfl ?_
 conv=>whnf
 repeat (any_goals (first
  |(refine⟨fun(h:(_:Bool)=true)=>?_,fun(h:(_:Bool)=false)=>?_⟩<;>(try simp only [Q0,Q1,Q2,Q3,Q4,Q5,Q6,Q7,Q8,reduceCtorEq] at h)<;>(conv=>whnf))))
 all_goals (try simp only [Z0yp,Z0j4,decide_true,Bool.and_true,decide_eq_false_iff_not,decide_eq_true_eq] at *)
 all_goals first
  |contradiction
  |(exfalso;omega)
  |exact PSub.rfl
  |(refine PSub.lit_sb ?_;(first|(simp [spareB, *];done)|(simp_all [spareB];done)|((try simp only [spareB]);(repeat' split)<;>(try simp only [Bool.false_eq,Bool.true_eq,Bool.and_eq_false_iff,decide_eq_false_iff_not,Bool.and_eq_true,decide_eq_true_eq,decide_eq_decide])<;>first|rfl|omega|(simp_all;done)|(simp_all;omega))))
  |(refine PSub.sb ?_;(first|(simp [spareB, *];done)|(simp_all [spareB];done)|((try simp only [spareB]);(repeat' split)<;>(try simp only [Bool.false_eq,Bool.true_eq,Bool.and_eq_false_iff,decide_eq_false_iff_not,Bool.and_eq_true,decide_eq_true_eq,decide_eq_decide])<;>first|rfl|omega|(simp_all;done)|(simp_all;omega))))
  |(refine PSub.sb_lit ?_;(first|(simp [spareB, *];done)|(simp_all [spareB];done)|((try simp only [spareB]);(repeat' split)<;>(try simp only [Bool.false_eq,Bool.true_eq,Bool.and_eq_false_iff,decide_eq_false_iff_not,Bool.and_eq_true,decide_eq_true_eq,decide_eq_decide])<;>first|rfl|omega|(simp_all;done)|(simp_all;omega))))
  |(refine PSub.int ?_;(first|(simp [spareB, *];done)|(simp_all [spareB];done)|((try simp only [spareB]);(repeat' split)<;>(try simp only [Bool.false_eq,Bool.true_eq,Bool.and_eq_false_iff,decide_eq_false_iff_not,Bool.and_eq_true,decide_eq_true_eq,decide_eq_decide])<;>first|rfl|omega|(simp_all;done)|(simp_all;omega))))
  |skip
theorem Z01b (e:Ex):AC Tryz.prog 209 [.pv (.agg (cEx e))] [] (.pv (vbool (rangeB e))) []:=by
 refine AC.of_awp (T:=T) T_ok hm Tryz.call209 Tryz.func209 rfl rfl rfl ?_
 conv=>whnf
 repeat (any_goals (first
  |(refine⟨fun(h:(_:Bool)=true)=>?_,fun(h:(_:Bool)=false)=>?_⟩<;>(try simp only [Q0,Q1,Q2,Q3,Q4,Q5,Q6,Q7,Q8,reduceCtorEq] at h)<;>(conv=>whnf))))
 all_goals first
  |contradiction
  |(exfalso;omega)
  |exact PSub.rfl
  |(refine PSub.lit_sb ?_;(first|(simp [rangeB, *];done)|(simp_all [rangeB];done)|((try simp only [rangeB]);(repeat' split)<;>(try simp only [Bool.false_eq,Bool.true_eq,Bool.and_eq_false_iff,decide_eq_false_iff_not,Bool.and_eq_true,decide_eq_true_eq,decide_eq_decide])<;>first|rfl|omega|(simp_all;done)|(simp_all;omega))))
  |(refine PSub.sb ?_;(first|(simp [rangeB, *];done)|(simp_all [rangeB];done)|((try simp only [rangeB]);(repeat' split)<;>(try simp only [Bool.false_eq,Bool.true_eq,Bool.and_eq_false_iff,decide_eq_false_iff_not,Bool.and_eq_true,decide_eq_true_eq,decide_eq_decide])<;>first|rfl|omega|(simp_all;done)|(simp_all;omega))))
  |(refine PSub.sb_lit ?_;(first|(simp [rangeB, *];done)|(simp_all [rangeB];done)|((try simp only [rangeB]);(repeat' split)<;>(try simp only [Bool.false_eq,Bool.true_eq,Bool.and_eq_false_iff,decide_eq_false_iff_not,Bool.and_eq_true,decide_eq_true_eq,decide_eq_decide])<;>first|rfl|omega|(simp_all;done)|(simp_all;omega))))
  |(refine PSub.int ?_;(first|(simp [rangeB, *];done)|(simp_all [rangeB];done)|((try simp only [rangeB]);(repeat' split)<;>(try simp only [Bool.false_eq,Bool.true_eq,Bool.and_eq_false_iff,decide_eq_false_iff_not,Bool.and_eq_true,decide_eq_true_eq,decide_eq_decide])<;>first|rfl|omega|(simp_all;done)|(simp_all;omega))))
  |skip
theorem Z01a (e:Ex):AC Tryz.prog 146 [.pv (.agg (cEx e))] [] (.pv (vint (nodeE e))) []:=by
 refine AC.of_awp (T:=T) T_ok hm Tryz.call146 Tryz.func146 rfl rfl rfl ?_
 conv=>whnf
 repeat (any_goals (first
  |(refine⟨fun(h:(_:Bool)=true)=>?_,fun(h:(_:Bool)=false)=>?_⟩<;>(try simp only [Q0,Q1,Q2,Q3,Q4,Q5,Q6,Q7,Q8,reduceCtorEq] at h)<;>(conv=>whnf))
  |(refine .inl ⟨_,Z019 e.kind e.kids.length,?_⟩;conv=>whnf)
  |(refine .inl ⟨_,Z01c e,?_⟩;conv=>whnf)
  |(refine .inl ⟨_,Z01b e,?_⟩;conv=>whnf)
  |(refine .inl ⟨_,Z01t e.name,?_⟩;conv=>whnf)
  |(refine .inl ⟨_,Z01t e.key.cluster,?_⟩;conv=>whnf)
  |(refine .inl ⟨_,Z01t e.key.attr,?_⟩;conv=>whnf)
  |(refine .inl ⟨_,Z07b e.value,?_⟩;conv=>whnf)))
 all_goals first
  |contradiction
  |(exfalso;omega)
  |exact PSub.rfl
  |(refine PSub.lit_sb ?_;(first|(simp [nodeE, *];done)|(simp_all [nodeE];done)|((try simp only [nodeE]);(repeat' split)<;>(try simp only [Bool.false_eq,Bool.true_eq,Bool.and_eq_false_iff,decide_eq_false_iff_not,Bool.and_eq_true,decide_eq_true_eq,decide_eq_decide])<;>first|rfl|omega|(simp_all;done)|(simp_all;omega))))
  |(refine PSub.sb ?_;(first|(simp [nodeE, *];done)|(simp_all [nodeE];done)|((try simp only [nodeE]);(repeat' split)<;>(try simp only [Bool.false_eq,Bool.true_eq,Bool.and_eq_false_iff,decide_eq_false_iff_not,Bool.and_eq_true,decide_eq_true_eq,decide_eq_decide])<;>first|rfl|omega|(simp_all;done)|(simp_all;omega))))
  |(refine PSub.sb_lit ?_;(first|(simp [nodeE, *];done)|(simp_all [nodeE];done)|((try simp only [nodeE]);(repeat' split)<;>(try simp only [Bool.false_eq,Bool.true_eq,Bool.and_eq_false_iff,decide_eq_false_iff_not,Bool.and_eq_true,decide_eq_true_eq,decide_eq_decide])<;>first|rfl|omega|(simp_all;done)|(simp_all;omega))))
  |(refine PSub.int ?_;(first|(simp [nodeE, *];done)|(simp_all [nodeE];done)|((try simp only [nodeE]);(repeat' split)<;>(try simp only [Bool.false_eq,Bool.true_eq,Bool.and_eq_false_iff,decide_eq_false_iff_not,Bool.and_eq_true,decide_eq_true_eq,decide_eq_decide])<;>first|rfl|omega|(simp_all;done)|(simp_all;omega))))
  |skip
end Go.Abs
namespace Go.Abs
open Go.Proofs
set_option maxRecDepth 10000
def visE (e:Ex) (l c:Int):Int:=if 24 < l then 22 else if 200 < c+1 then 3 else nodeE e
theorem Z017 (e:Ex) (l c f:Int) (hc:0≤c∧c≤200):AC Tryz.prog 145 [.pv (.agg (cEx e)),.pv (vint l),.ptr 900000 0,.ptr 900001 0] [(900000,.pbox [vint c]),(900001,.pbox [vint f])]
  (.pv (vbool (decide (visE e l c=0)))) [(900000,.pbox [vint (c+1)]),(900001,.pbox [vint (visE e l c)])]:=by
 refine AC.of_awp_gen (T:=T) T_ok hm Tryz.call145 Tryz.func145 rfl rfl rfl rfl rfl rfl ?_
 conv=>whnf
 refine .inl ⟨wrap64 (by omega),?_⟩
 conv=>whnf
 repeat (any_goals (first
  |(refine⟨fun(h:(_:Bool)=true)=>?_,fun(h:(_:Bool)=false)=>?_⟩<;>(try simp only [Q0,Q1,Q2,Q3,Q4,Q5,Q6,Q7,Q8,reduceCtorEq] at h)<;>(conv=>whnf))
  |(refine .inl ⟨_,Z01a e,?_⟩;conv=>whnf)))
 ·rw [show visE e l c=22 from by simp [visE,h]]
  refine⟨[],?_⟩
  conv=>whnf
  (repeat' (first|exact PSub.rfl|exact rfl|exact PSubs.rfl|exact trivial|exact PSub.lit_sb rfl|refine And.intro ?_ ?_))
 ·rename_i h1
  rw [show visE e l c=3 from by simp only [visE,if_neg h1,if_pos h]]
  refine⟨[],?_⟩
  conv=>whnf
  (repeat' (first|exact PSub.rfl|exact rfl|exact PSubs.rfl|exact trivial|exact PSub.lit_sb rfl|refine And.intro ?_ ?_))
 ·rename_i h1
  rw [show visE e l c=nodeE e from by simp only [visE,if_neg h1,if_neg h]]
  refine⟨[],?_⟩
  conv=>whnf
  (repeat' (first|exact PSub.rfl|exact rfl|exact PSubs.rfl|exact trivial|exact PSub.lit_sb rfl|refine And.intro ?_ ?_))
theorem Z0b5 (e:Ex) (l c:Int):chkE e l c=if visE e l c=0 then chkL e.kids (l+1) (c+1) else (c+1,visE e l c):=by
 rw [Z0b0,visE]
 by_cases h1:24 < l
 ·simp [h1]
 ·by_cases h2:200 < c+1
  ·simp [h1,h2]
  ·simp only [if_neg h1,if_neg h2]
   by_cases h3:nodeE e=0
   ·simp [h3]
   ·simp [h3]
abbrev chkO (c f:Int):Upd:=[(900000,.box [.fn 145 [.ptr 900002 0,.ptr 900003 0]]),(900001,.box [.fn 206 [.ptr 900000 0,.ptr 900001 0]]),(900002,.pbox [vint c]),(900003,.pbox [vint f])]
theorem Z01d (e:Ex) (l c f:Int) (hl:0≤l∧l≤25) (hc:0≤c∧c≤200):AC Tryz.prog 206 [.pv (.agg (cEx e)),.pv (vint l),.ptr 900000 0,.ptr 900001 0] (chkO c f) (.pv (vbool (decide ((chkE e l c).2=0)))) (chkO (chkE e l c).1 (chkE e l c).2):=by
 have ih:∀ k l c f,k < e.kids.length→0≤l∧l≤25→0≤c∧c≤200→AC Tryz.prog 206 [.pv (.agg (cEx (e.kids.getD k default))),.pv (vint l),.ptr 900000 0,.ptr 900001 0] (chkO c f) (.pv (vbool (decide ((chkE (e.kids.getD k default) l c).2=0)))) (chkO (chkE (e.kids.getD k default) l c).1 (chkE (e.kids.getD k default) l c).2):=fun k l c f hk hl hc=>
  have:=Ex.kid_lt (Ex.kid_at hk)
  Z01d (e.kids.getD k default) l c f hl hc
 have heq:=Z0b5 e l c
 refine AC.ex ?_
 refine AC.of_awp_gen (T:=T) T_ok hm Tryz.call206 Tryz.func206 rfl rfl rfl rfl rfl rfl ?_
 conv=>whnf
 refine .inr (.inr (.inr (.inr ⟨[(900000,900002),(900001,900003)],[],_,_,_,(Z017 e l c f hc).ex',rfl,?_⟩)))
 conv=>whnf
 refine⟨fun h=>?_,fun h=>?_⟩<;>(try simp only [Q0,Q1,Q2,Q3,Q4,Q5,Q6,Q7,Q8,reduceCtorEq] at h)<;>(conv=>whnf)
 ·rw [if_neg h] at heq
  refine⟨[],?_⟩
  rw [heq,decide_eq_false h]
  conv=>whnf
  (repeat' (first|exact PSub.rfl|exact rfl|exact PSubs.rfl|exact trivial|exact PSub.lit_sb rfl|refine And.intro ?_ ?_))
 rw [if_pos h] at heq
 have hk8:=Z0lz (e:=e) (by
  unfold visE at h
  split at h
  ·cases h
  ·split at h
   ·cases h
   ·exact h)
 have hc2:c+1≤200:=by
  unfold visE at h
  split at h
  ·cases h
  ·split at h
   ·cases h
   ·omega
 have hl2:l≤24:=by
  unfold visE at h
  split at h
  ·cases h
  ·omega
 refine loop_k (ι:=Nat × Int) [1,2,3,15,16] [900000,900001] (fun x=>x.1≤e.kids.length∧(0≤x.2∧x.2≤200)∧chkL (e.kids.drop x.1) (l+1) x.2=chkE e l c) (fun x=>e.kids.length - x.1) (0,c+1) (fun x=>[(17,.pv (vint x.1))]) (fun x=>[(900002,.pbox [vint x.2]),(900003,.pbox [vint 0])]) [] ⟨Nat.zero_le _,⟨by omega,by omega⟩,by rw [heq];rfl⟩ ?_ (fun x hk=>?_)
 ·(repeat' (first|exact PSub.rfl|exact rfl|exact PSubs.rfl|exact trivial|exact PSub.lit_sb rfl|refine And.intro ?_ ?_))
  exact PSub.int h
 obtain⟨k,n⟩:=x
 obtain⟨hkn,hn,hinv⟩:=hk
 dsimp only at hkn hn hinv
 conv=>whnf
 repeat (any_goals (first
  |(refine⟨fun(h:(_:Bool)=true)=>?_,fun(h:(_:Bool)=false)=>?_⟩<;>(try simp only [Q0,Q1,Q2,Q3,Q4,Q5,Q6,Q7,Q8,reduceCtorEq] at h)<;>(conv=>whnf))
  |(refine .inr (.inr (.inr (.inr ⟨[(900000,900000),(900001,900001),(900002,900002),(900003,900003)],[],_,_,_,ih k (l+1) n 0 (by omega) (by omega) (by omega),rfl,?_⟩)));conv=>whnf)
  |(refine And.intro (by(try simp only [Int.toNat_natCast]);omega) ?_;conv=>whnf)
  |(refine .inl ⟨wrap64 (by omega),?_⟩;conv=>whnf)))
 ·have hx:=Z0ch (l:=e.kids) (k:=k) (by omega)
  rw [hx,chkL,if_pos h] at hinv
  refine⟨[],?_⟩
  rw [←hinv,decide_eq_false h]
  conv=>whnf
  (repeat' (first|exact PSub.rfl|exact rfl|exact PSubs.rfl|exact trivial|exact PSub.lit_sb rfl|refine And.intro ?_ ?_))
 ·have hx:=Z0ch (l:=e.kids) (k:=k) (by omega)
  rw [hx,chkL,if_neg (by simpa using h)] at hinv
  have hb:=chkE_b (e.kids.getD k default) (l+1) n (by omega) (by omega)
  refine⟨(k+1,(chkE (e.kids.getD k default) (l+1) n).1),[],⟨by dsimp only;omega,⟨hb.1,hb.2.2 h⟩,hinv⟩,by first|omega|(dsimp only;omega),?_⟩
  (repeat' (first|exact PSub.rfl|exact rfl|exact PSubs.rfl|exact trivial|exact PSub.lit_sb rfl|refine And.intro ?_ ?_))
  exact PSub.int h
 ·rw [List.drop_of_length_le (by omega),chkL] at hinv
  refine⟨[],?_⟩
  rw [←hinv]
  conv=>whnf
  (repeat' (first|exact PSub.rfl|exact rfl|exact PSubs.rfl|exact trivial|exact PSub.lit_sb rfl|refine And.intro ?_ ?_))
termination_by SizeOf.sizeOf e
theorem Z01e (e:Ex) (f:Int):AC Tryz.prog 144 [.pv (.agg (cEx e)),.fn 145 [.ptr 900002 0,.ptr 900003 0]] [(900002,.pbox [vint 0]),(900003,.pbox [vint f])] (.pv (vbool (decide (exE e=0))))
  [(900002,.pbox [vint (chkE e 1 0).1]),(900003,.pbox [vint (exE e)])]:=by
 refine AC.of_awp_gen (T:=T) T_ok hm Tryz.call144 Tryz.func144 rfl rfl rfl rfl rfl rfl ?_
 conv=>whnf
 refine .inr (.inr (.inr (.inr ⟨[(900000,3),(900001,5),(900002,900002),(900003,900003)],[],_,_,_,(Z01d e 1 0 f (by omega) (by omega)),rfl,?_⟩)))
 conv=>whnf
 refine⟨[],?_⟩
 conv=>whnf
 (repeat' (first|exact PSub.rfl|exact rfl|exact PSubs.rfl|exact trivial|exact PSub.lit_sb rfl|refine And.intro ?_ ?_))
theorem Z016 (e:Ex):AC Tryz.prog 96 [.pv (.agg (cEx e))] [] (.pv (vint (exE e))) []:=by
 refine AC.of_awp (T:=T) T_ok hm Tryz.call96 Tryz.func96 rfl rfl rfl ?_
 conv=>whnf
 refine .inr (.inr (.inr (.inr ⟨[(900002,4),(900003,3)],[],_,_,_,(Z01e e 0),rfl,?_⟩)))
 conv=>whnf
 exact PSub.rfl
end Go.Abs
namespace Go.Abs
open Go.Proofs
set_option maxRecDepth 10000
theorem Z078 (s:Sco) (e:Ex) (hs:smallS s):AC Tryz.prog 241 [.pv (.agg (cSco s)),.pv (.agg (cEx e))] [] (.pv (.tup [vint (leafK s e.kind e.name e.value e.key).1,vint (leafK s e.kind e.name e.value e.key).2])) []:=by
 refine AC.of_awp (T:=T) T_ok hm Tryz.call241 Tryz.func241 rfl rfl rfl ?_
 conv=>whnf
 repeat (any_goals (first
  |(refine⟨fun(h:(_:Bool)=true)=>?_,fun(h:(_:Bool)=false)=>?_⟩<;>(try simp only [Q0,Q1,Q2,Q3,Q4,Q5,Q6,Q7,Q8,reduceCtorEq] at h)<;>(conv=>whnf))
  |(refine .inl ⟨_,Z00l s.home e.key hs.1,?_⟩;conv=>whnf)
  |(refine .inl ⟨_,Z05x s.modes 0 e.name hs.2.1,?_⟩;conv=>whnf)))
 all_goals (try (refine And.intro ?_ ?_<;>(conv=>whnf)))
 all_goals first
  |contradiction
  |(exfalso;omega)
  |exact PSub.rfl
  |(refine PSub.lit_sb ?_;(first|(simp [leafK, *];done)|(simp_all [leafK];done)|((try simp only [leafK]);(repeat' split)<;>(try simp only [Bool.false_eq,Bool.true_eq,Bool.and_eq_false_iff,decide_eq_false_iff_not,Bool.and_eq_true,decide_eq_true_eq,decide_eq_decide])<;>first|rfl|omega|(simp_all;done)|(simp_all;omega))))
  |(refine PSub.sb ?_;(first|(simp [leafK, *];done)|(simp_all [leafK];done)|((try simp only [leafK]);(repeat' split)<;>(try simp only [Bool.false_eq,Bool.true_eq,Bool.and_eq_false_iff,decide_eq_false_iff_not,Bool.and_eq_true,decide_eq_true_eq,decide_eq_decide])<;>first|rfl|omega|(simp_all;done)|(simp_all;omega))))
  |(refine PSub.sb_lit ?_;(first|(simp [leafK, *];done)|(simp_all [leafK];done)|((try simp only [leafK]);(repeat' split)<;>(try simp only [Bool.false_eq,Bool.true_eq,Bool.and_eq_false_iff,decide_eq_false_iff_not,Bool.and_eq_true,decide_eq_true_eq,decide_eq_decide])<;>first|rfl|omega|(simp_all;done)|(simp_all;omega))))
  |(refine PSub.int ?_;(first|(simp [leafK, *];done)|(simp_all [leafK];done)|((try simp only [leafK]);(repeat' split)<;>(try simp only [Bool.false_eq,Bool.true_eq,Bool.and_eq_false_iff,decide_eq_false_iff_not,Bool.and_eq_true,decide_eq_true_eq,decide_eq_decide])<;>first|rfl|omega|(simp_all;done)|(simp_all;omega))))
  |skip
theorem Z072 (l:List Int) (k:Int) (hl:smallL l):AC Tryz.prog 242 [.pv (roL 1 cint l),.pv (vint k)] [] (.pv (vbool (allI l k))) []:=by
 have hl2:l.length≤1048576:=hl
 refine AC.of_awp (T:=T) T_ok hm Tryz.call242 Tryz.func242 rfl rfl rfl ?_
 conv=>whnf
 refine loop_k (ι:=Nat) [1,7,8] [] (fun q=>q≤l.length∧∀ i,i < q→l.getD i default=k) (fun q=>l.length - q) 0 (fun q=>[(9,.pv (vint q))]) (fun _=>[]) [] ⟨Nat.zero_le _,fun i h=>absurd h (by omega)⟩ ?_ (fun q hk=>?_)
 ·(repeat' (first|exact PSub.rfl|exact rfl|exact PSubs.rfl|exact trivial|exact PSub.lit_sb rfl|refine And.intro ?_ ?_))
 obtain⟨hkn,hinv⟩:=hk
 conv=>whnf
 repeat (any_goals (first
  |(refine⟨fun(h:(_:Bool)=true)=>?_,fun(h:(_:Bool)=false)=>?_⟩<;>(try simp only [Q0,Q1,Q2,Q3,Q4,Q5,Q6,Q7,Q8,reduceCtorEq] at h)<;>(conv=>whnf))
  |(refine And.intro (by(try simp only [Int.toNat_natCast]);omega) ?_;conv=>whnf)
  |(refine .inl ⟨wrap64 (by omega),?_⟩;conv=>whnf)))
 ·refine PSub.lit_sb ?_
  symm
  rw [←Bool.not_eq_true]
  intro h2
  simp only [allI,List.all_eq_true,decide_eq_true_eq] at h2
  exact h (h2 _ (by simp [List.getD,show q < l.length from by omega]))
 ·refine⟨q+1,[],⟨by omega,?_⟩,by first|omega|(dsimp only;omega),?_⟩
  rotate_left
  ·(repeat' (first|exact PSub.rfl|exact rfl|exact PSubs.rfl|exact trivial|exact PSub.lit_sb rfl|refine And.intro ?_ ?_))
  intro j hj
  by_cases e:j=q
  ·subst e;first|exact h|simpa [-List.getD_eq_getElem?_getD] using h|simp_all [-List.getD_eq_getElem?_getD]
  ·exact hinv j (by omega)
 ·refine PSub.lit_sb ?_
  symm
  simp only [allI,List.all_eq_true,decide_eq_true_eq]
  intro x hx
  obtain⟨i,hi,rfl⟩:=List.getElem_of_mem hx
  have:=hinv i (by omega)
  simpa [List.getD,hi] using this
theorem Z0jj {k n:Int} (h:kidsB k n=true) (h0:0 < n):(k=6∧n=1)∨((k=7∨k=8)∧2≤n∧n≤8)∨(9≤k∧k≤13∧n=2)∨(k=14∧n=3):=by
 unfold kidsB at h
 (repeat' split at h)<;>simp only [decide_eq_true_eq,Bool.and_eq_true] at h<;>omega
set_option maxHeartbeats 1000000 in
theorem Z077 (s:Sco) (hs:smallS s) (e:Ex) (he:okE e):AC Tryz.prog 195 [.pv (.agg (cSco s)),.pv (.agg (cEx e))] [] (.pv (.tup [vint (kindE s e).1,vint (kindE s e).2])) []:=by
 obtain⟨hk1,hk2,hk3⟩:=(Z0me e).1 he
 have ih:∀ k,k < e.kids.length→AC Tryz.prog 195 [.pv (.agg (cSco s)),.pv (.agg (cEx (e.kids.getD k default)))] [] (.pv (.tup [vint (kindE s (e.kids.getD k default)).1,vint (kindE s (e.kids.getD k default)).2])) []:=fun k hk=>
  have:=Ex.kid_lt (Ex.kid_at hk)
  Z077 s hs (e.kids.getD k default) (okL_at hk3 hk)
 refine AC.ex2 ?_
 refine AC.of_awp (T:=T) T_ok hm Tryz.call195 Tryz.func195 rfl rfl rfl ?_
 conv=>whnf
 refine⟨fun h=>?_,fun h=>?_⟩<;>(try simp only [Q0,Q1,Q2,Q3,Q4,Q5,Q6,Q7,Q8,reduceCtorEq] at h)<;>(conv=>whnf)
 ·have hz:=Z0jm (s:=s) (e:=e) (by omega)
  repeat (any_goals (first
   |(refine .inl ⟨_,(Z078 s e hs).ex2',?_⟩;conv=>whnf)))
  rw [hz]
  refine⟨?_,?_⟩<;>(conv=>whnf)
  all_goals exact PSub.rfl
 have hop:=Z0jn (s:=s) (e:=e) (by omega)
 have hlen:=Z0jj hk2 (by omega)
 refine loop_k (ι:=Nat × List Int) [2,3,23,24] [2,3] (fun x=>x.1≤e.kids.length∧KTo s e.kids x.1 x.2) (fun x=>e.kids.length - x.1) (0,[]) (fun x=>[(6,.own 500),(25,.pv (vint x.1))]) (fun x=>[(500,rowL 1 cint x.2)]) [] ⟨Nat.zero_le _,KTo.zero s e.kids⟩ ?_ (fun x hk=>?_)
 ·(repeat' (first|exact PSub.rfl|exact rfl|exact PSubs.rfl|exact trivial|exact PSub.lit_sb rfl|refine And.intro ?_ ?_))
 obtain⟨k,acc⟩:=x
 obtain⟨hkn,hinv⟩:=hk
 dsimp only at hkn hinv
 have hacc:=hinv.1
 conv=>whnf
 have hsm:smallL acc:=show acc.length≤1048576 from by omega
 repeat (any_goals (first
  |(refine⟨fun(h:(_:Bool)=true)=>?_,fun(h:(_:Bool)=false)=>?_⟩<;>(try simp only [Q0,Q1,Q2,Q3,Q4,Q5,Q6,Q7,Q8,reduceCtorEq] at h)<;>(conv=>whnf))
  |(refine .inl ⟨_,ih k (by omega),?_⟩;conv=>whnf)
  |(refine .inl ⟨_,Z072 acc 1 hsm,?_⟩;conv=>whnf)
  |(refine .inl ⟨_,Z072 acc 2 hsm,?_⟩;conv=>whnf)
  |(refine And.intro (by(try simp only [Int.toNat_natCast]);omega) ?_;conv=>whnf)
  |(refine And.intro (show(_:Bool)=true from by kernel_rfl) ?_;conv=>whnf)
  |(refine .inl ⟨wrap64 (by omega),?_⟩;conv=>whnf)))
 ·have:=hinv.err (by omega) h
  rw [this] at hop
  rw [hop]
  refine⟨?_,?_⟩<;>(conv=>whnf)
  all_goals exact PSub.rfl
 ·refine⟨(k+1,acc ++ [(kindE s (e.kids.getD k default)).1]),[(500,41)],⟨by dsimp only;omega,hinv.next (by omega) h⟩,by dsimp only;omega,?_⟩
  (repeat' (first|exact PSub.rfl|exact rfl|exact PSubs.rfl|exact trivial|exact PSub.lit_sb rfl|refine And.intro ?_ ?_))
  ·dsimp only;rw [List.length_append];simp [hacc]
  ·refine Z0qz (fun i hi=>by simp only [if_pos hi];exact PSubs.rfl) (by simp only [if_neg (Nat.lt_irrefl _),Nat.sub_self];exact PSubs.rfl)
 all_goals have hdn:=hinv.done (by omega)
 all_goals rw [hdn] at hop
 all_goals dsimp only at hop
 all_goals (try (exfalso;omega))
 all_goals rw [hop]
 all_goals (try (refine And.intro ?_ ?_<;>(conv=>whnf)))
 all_goals first
  |contradiction
  |(exfalso;omega)
  |exact PSub.rfl
  |(refine PSub.lit_sb ?_;(first|(simp [opK, *];done)|(simp_all [opK];done)|((try simp only [opK]);(repeat' split)<;>(try simp only [Bool.false_eq,Bool.true_eq,Bool.and_eq_false_iff,decide_eq_false_iff_not,Bool.and_eq_true,decide_eq_true_eq,decide_eq_decide])<;>first|rfl|omega|(simp_all;done)|(simp_all;omega))))
  |(refine PSub.sb ?_;(first|(simp [opK, *];done)|(simp_all [opK];done)|((try simp only [opK]);(repeat' split)<;>(try simp only [Bool.false_eq,Bool.true_eq,Bool.and_eq_false_iff,decide_eq_false_iff_not,Bool.and_eq_true,decide_eq_true_eq,decide_eq_decide])<;>first|rfl|omega|(simp_all;done)|(simp_all;omega))))
  |(refine PSub.sb_lit ?_;(first|(simp [opK, *];done)|(simp_all [opK];done)|((try simp only [opK]);(repeat' split)<;>(try simp only [Bool.false_eq,Bool.true_eq,Bool.and_eq_false_iff,decide_eq_false_iff_not,Bool.and_eq_true,decide_eq_true_eq,decide_eq_decide])<;>first|rfl|omega|(simp_all;done)|(simp_all;omega))))
  |(refine PSub.int ?_;(first|(simp [opK, *];done)|(simp_all [opK];done)|((try simp only [opK]);(repeat' split)<;>(try simp only [Bool.false_eq,Bool.true_eq,Bool.and_eq_false_iff,decide_eq_false_iff_not,Bool.and_eq_true,decide_eq_true_eq,decide_eq_decide])<;>first|rfl|omega|(simp_all;done)|(simp_all;omega))))
  |skip
termination_by SizeOf.sizeOf e
end Go.Abs
namespace Go.Abs
open Go.Proofs
set_option maxRecDepth 10000
theorem Z06z (s:Sco) (e:Ex) (hs:smallS s):AC Tryz.prog 136 [.pv (.agg (cSco s)),.pv (.agg (cEx e))] [] (.pv (.tup [vint (exprK s e).1,vint (exprK s e).2])) []:=by
 refine AC.of_awp (T:=T) T_ok hm Tryz.call136 Tryz.func136 rfl rfl rfl ?_
 conv=>whnf
 repeat (any_goals (first
  |(refine⟨fun(h:(_:Bool)=true)=>?_,fun(h:(_:Bool)=false)=>?_⟩<;>(try simp only [Q0,Q1,Q2,Q3,Q4,Q5,Q6,Q7,Q8,reduceCtorEq] at h)<;>(conv=>whnf))
  |(refine .inl ⟨_,Z016 e,?_⟩;conv=>whnf)))
 ·rw [exprK,if_pos h]
  refine⟨?_,?_⟩<;>(conv=>whnf)
  all_goals exact PSub.rfl
 ·rw [exprK,if_neg (by simpa using h)]
  repeat (any_goals (first
   |(refine .inl ⟨_,Z077 s hs e (exE_ok h),?_⟩;conv=>whnf)))
  refine⟨?_,?_⟩<;>(conv=>whnf)
  all_goals exact PSub.rfl
def wantK (s:Sco) (e:Ex) (k:Int):Int:=if (exprK s e).2≠0 then (exprK s e).2 else if (exprK s e).1≠k then 11 else 0
theorem Z079 (s:Sco) (e:Ex) (k:Int) (hs:smallS s):AC Tryz.prog 87 [.pv (.agg (cSco s)),.pv (.agg (cEx e)),.pv (vint k)] [] (.pv (vint (wantK s e k))) []:=by
 refine AC.of_awp (T:=T) T_ok hm Tryz.call87 Tryz.func87 rfl rfl rfl ?_
 conv=>whnf
 repeat (any_goals (first
  |(refine⟨fun(h:(_:Bool)=true)=>?_,fun(h:(_:Bool)=false)=>?_⟩<;>(try simp only [Q0,Q1,Q2,Q3,Q4,Q5,Q6,Q7,Q8,reduceCtorEq] at h)<;>(conv=>whnf))
  |(refine .inl ⟨_,Z06z s e hs,?_⟩;conv=>whnf)))
 all_goals first
  |contradiction
  |(exfalso;omega)
  |exact PSub.rfl
  |(refine PSub.lit_sb ?_;(first|(simp [wantK, *];done)|(simp_all [wantK];done)|((try simp only [wantK]);(repeat' split)<;>(try simp only [Bool.false_eq,Bool.true_eq,Bool.and_eq_false_iff,decide_eq_false_iff_not,Bool.and_eq_true,decide_eq_true_eq,decide_eq_decide])<;>first|rfl|omega|(simp_all;done)|(simp_all;omega))))
  |(refine PSub.sb ?_;(first|(simp [wantK, *];done)|(simp_all [wantK];done)|((try simp only [wantK]);(repeat' split)<;>(try simp only [Bool.false_eq,Bool.true_eq,Bool.and_eq_false_iff,decide_eq_false_iff_not,Bool.and_eq_true,decide_eq_true_eq,decide_eq_decide])<;>first|rfl|omega|(simp_all;done)|(simp_all;omega))))
  |(refine PSub.sb_lit ?_;(first|(simp [wantK, *];done)|(simp_all [wantK];done)|((try simp only [wantK]);(repeat' split)<;>(try simp only [Bool.false_eq,Bool.true_eq,Bool.and_eq_false_iff,decide_eq_false_iff_not,Bool.and_eq_true,decide_eq_true_eq,decide_eq_decide])<;>first|rfl|omega|(simp_all;done)|(simp_all;omega))))
  |(refine PSub.int ?_;(first|(simp [wantK, *];done)|(simp_all [wantK];done)|((try simp only [wantK]);(repeat' split)<;>(try simp only [Bool.false_eq,Bool.true_eq,Bool.and_eq_false_iff,decide_eq_false_iff_not,Bool.and_eq_true,decide_eq_true_eq,decide_eq_decide])<;>first|rfl|omega|(simp_all;done)|(simp_all;omega))))
  |skip
end Go.Abs
namespace Go.Abs
def fireE (s:Sco) (t:Trg):Int:=
 if t.kind=1 then (if (findA s.home t.key).isSome=true then 0 else 8)
 else if t.kind=2 then (if (partO s.home t.event.dev t.event.cluster).isSome=true∧0≤idxOf ((partO s.home t.event.dev t.event.cluster).getD noClu).events t.event.name then 0 else 8)
 else if t.kind=4 then (if t.name=⟨#[]⟩∨0≤idxOf s.modes t.name then 0 else 8) else 0
def comO (s:Sco) (x:Stp):Option Cmd:=
 match partO s.home x.key.dev x.key.cluster with
 |none=>none
 |some c=>if cmdAt c.commands x.name < c.commands.length then some (cmdOf c.commands x.name) else none
def comE (s:Sco) (x:Stp):Int:=
 match comO s x with
 |none=>8
 |some d=>if d.param.kind≠0 then wantK s x.expr d.param.kind else if zeroX x.expr=true then 0 else 1
def doE (s:Sco) (x:Stp):Int:=
 if x.kind=1 then (if (findA s.home x.key).isSome=false then 8 else if ((findA s.home x.key).getD noAttr).writable=false then 24 else wantK s x.expr ((findA s.home x.key).getD noAttr).kind)
 else if x.kind=2 then comE s x
 else if x.kind=3 then (if 0≤idxOf s.scenes x.name then 0 else 8)
 else if x.kind=4 then (if 0≤idxOf s.modes x.name then 0 else 8) else 0
def ruleE (s:Sco) (r:Rul):Int:=
 if rulE r≠0 then rulE r else if firstE r.on.length (fun i=>fireE s (r.on.getD i default))≠0 then firstE r.on.length fun i=>fireE s (r.on.getD i default)
 else if wantK s r.cond 1≠0 then wantK s r.cond 1 else firstE r.steps.length fun i=>doE s (r.steps.getD i default)
def atE (s:Sco) (l:List Rul) (i:Nat):Int:=if ruleE s (l.getD i default)≠0 then ruleE s (l.getD i default) else if idxOf (l.map Rul.name) (l.getD i default).name < i then 9 else 0
def rulesE (s:Sco) (l:List Rul):Int × Int:=
 if 40 < l.length then (40,3) else match (List.range l.length).find? (fun i=>decide (atE s l i≠0)) with
  |some i=>(i,atE s l i)
  |none=>(-1,0)
theorem Z0ra {s:Sco} {l:List Rul} {k:Nat} (h40:¬ 40 < l.length) (hk:k < l.length) (h:atE s l k≠0) (hf:∀ j,j < k→atE s l j=0):rulesE s l=((k:Int),atE s l k):=by
 have:(List.range l.length).find? (fun i=>decide (atE s l i≠0))=some k:=by
  rw [List.find?_range_eq_some]
  exact⟨by simpa using h,by simpa using hk,fun j hj=>by simpa using hf j hj⟩
 unfold rulesE
 rw [if_neg h40,this]
theorem Z0rb {s:Sco} {l:List Rul} (h40:¬ 40 < l.length) (hf:∀ j,j < l.length→atE s l j=0):rulesE s l=(-1,0):=by
 have:(List.range l.length).find? (fun i=>decide (atE s l i≠0))=none:=by
  rw [List.find?_eq_none]
  intro x hx
  simpa using hf x (by simpa using hx)
 unfold rulesE
 rw [if_neg h40,this]
end Go.Abs
namespace Go.Abs
open Go.RowKit
theorem Z0xc {β:Type}:∀ (l:List β) (f:Nat→Nat) (h:β→Nat),(∀ (i:Nat) (x:β),l[i]? = some x→f i≤h x)→((List.range l.length).map f).sum≤(l.map h).sum
 | [],_,_,_=>by simp
 |x :: l,f,h,hf=>by
  rw [List.length_cons,List.range_succ_eq_map]
  simp only [List.map_cons,List.map_map,List.sum_cons]
  have h0:=hf 0 x rfl
  have h1:=Z0xc l (fun i=>f (i+1)) h (fun i y e=>hf (i+1) y (by simpa using e))
  have e:(f ∘ Nat.succ)=fun i=>f (i+1):=rfl
  rw [e]
  omega
structure BulkSum {H:Type} (bulk:DataW H→Nat):Prop where
 slice:∀ e s,(e.map bulk).sum≤bulk (.slice e s)
 agg:∀ l,(l.map bulk).sum+1≤bulk (.agg l)
section
variable {H:Type} (enc:TypeId × Value→H) (P:Program) (w:World) (bulk:DataW H→Nat) (B:Nat)
def OpensU (N:Nat) (t:TypeId) {α:Type} (cs:α→List PV) (good:α→Prop) (me:α→Nat):Prop:=
 ∀ (sp:Nat→Bool) (fuel:Nat) (vs:List Value) (x:DataW H × List MemPlace),fuel≤N→DataW.trod enc P w 0 sp true fuel t vs=some x→bulk x.1≤B→∃ a:α,good a∧me a≤bulk x.1∧Reads w vs (cs a)
def FOpensU (N:Nat) (fs:List Field) (off:Nat) {α:Type} (cs:α→List PV) (good:α→Prop) (me:α→Nat):Prop:=
 ∀ (sp:Nat→Bool) (n:Nat) (vs:List Value) (xs:List (DataW H × List MemPlace)),n≤N→xs.length=fs.length→(∀ (i:Nat) (f:Field),fs[i]? = some f→DataW.trod enc P w 0 sp true n f.type ((vs.drop f.offset).take (P.cellsOf f.type))=xs[i]?)→
  (∀ y ∈ xs,bulk y.1≤B)→off≤vs.length→vs.length=off+(fs.map fun f=>P.cellsOf f.type).sum→∃ a:α,good a∧me a≤(xs.map fun y=>bulk y.1).sum∧Reads w (vs.drop off) (cs a)
end
section
variable {H:Type} {enc:TypeId × Value→H} {P:Program} {w:World} {bulk:DataW H→Nat} {B:Nat}
theorem OpensU.all {t:TypeId} {α:Type} {cs:α→List PV} {good:α→Prop} {me:α→Nat} (h:∀ N,OpensU enc P w bulk B N t cs good me):Opens enc P w bulk B t cs (fun a=>good a∧me a≤B):=by
 intro sp fuel vs x hx hb
 obtain⟨a,h1,h2,h3⟩:=h fuel sp fuel vs x (Nat.le_refl _) hx hb
 exact⟨a,⟨h1,Nat.le_trans h2 hb⟩,h3⟩
theorem OpensU.imp {t:TypeId} {α β:Type} {cs:α→List PV} {good:α→Prop} {me:α→Nat} {cs':β→List PV} {good':β→Prop} {me':β→Nat} {N:Nat} (h:OpensU enc P w bulk B N t cs good me) (f:α→β) (he:∀ a,good a→∀ vs,Reads w vs (cs a)→Reads w vs (cs' (f a))) (hg:∀ a,good a→good' (f a)) (hm:∀ a,me' (f a)≤me a):OpensU enc P w bulk B N t cs' good' me':=by
 intro sp fuel vs x hf hx hb
 obtain⟨a,h1,h2,h3⟩:=h sp fuel vs x hf hx hb
 exact⟨f a,hg a h1,Nat.le_trans (hm a) h2,he a h1 vs h3⟩
theorem OpensU.slice (hB:BulkOk bulk) (hS:BulkSum bulk) {t e:TypeId} {α:Type} [Inhabited α] {cs:α→List PV} {good:α→Prop} {me:α→Nat} {N:Nat} {size:Nat} (ht:P.underlying t=some (.slice e)) (hsz:P.cellsOf e=size) (hpos:0 < size) (he:OpensU enc P w bulk B N e cs good me) :
  OpensU enc P w bulk B (N+1) t (fun l:List α=>[roL size cs l]) (fun l=>l.length≤B∧∀ i,i < l.length→good (l.getD i default)) (fun l=>(l.map me).sum):=by
 intro sp fuel vs x hfu hx hb
 rcases DataW.trod_slice ht hx with ⟨rfl,rfl⟩|⟨a,len,cap,elems,rest,n,rfl,rfl,rfl,_,hlc,hcm,hel,hcell,_,_⟩
 ·exact⟨[],⟨Nat.zero_le _,fun i h=>absurd h (by simp)⟩,Nat.zero_le _,Reads.single ((PSub.nil_ro size _).to _ _ _ (.val _)) rfl⟩
 ·simp only at hb
  have hlen:len≤B:=by
   have:=hB.len (elems.map (·.1)) (rest.map (·.1))
   simp only [List.length_map] at this
   omega
  have hone:∀ i,i < len→∃ y,(good y∧∀ z,elems[i]? = some z→me y≤bulk z.1)∧∃ cl,w.cells? 0 (a.add (i * size)) size=some cl∧Reads w cl (cs y):=by
   intro i hi
   have h1:=hcell i hi
   rw [hsz] at h1
   have hi2:i < elems.length:=by omega
   rw [List.getElem?_eq_getElem hi2] at h1
   cases hc:w.cells? 0 (a.add (i * size)) size with
   |none=>rw [hc] at h1;cases h1
   |some cl=>
    rw [hc] at h1
    simp only [Option.bind_some] at h1
    have hb2:bulk (elems[i]).1≤B:=Nat.le_trans (hB.elem (elems.map (·.1)) (rest.map (·.1)) _ (List.mem_map_of_mem (List.getElem_mem hi2))) hb
    obtain⟨y,hg,hme,hr⟩:=he sp n cl _ (by omega) h1 hb2
    exact⟨y,⟨hg,fun z hz=>by rw [List.getElem?_eq_getElem hi2] at hz;cases hz;exact hme⟩,cl,rfl,hr⟩
  have hex:∃ f:Nat→α,∀ i,i < len→(good (f i)∧∀ z,elems[i]? = some z→me (f i)≤bulk z.1)∧∃ cl,w.cells? 0 (a.add (i * size)) size=some cl∧Reads w cl (cs (f i)):=
   ⟨fun i=>if h:i < len then Classical.choose (hone i h) else default,fun i hi=>by simp only [dif_pos hi];exact Classical.choose_spec (hone i hi)⟩
  obtain⟨f,hf⟩:=hex
  have hget:∀ i,i < len→((List.range len).map f).getD i default=f i:=fun i hi=>by simp [List.getD,hi]
  refine⟨(List.range len).map f,⟨by simpa using hlen,fun i hi=>?_⟩,?_,Reads.single ?_ rfl⟩
  ·have hi:i < len:=by simpa using hi
   rw [hget i hi];exact(hf i hi).1.1
  ·have h1:=Z0xc elems (fun i=>me (f i)) (fun z=>bulk z.1) (fun i z hz=>(hf i (by have:=(List.getElem?_eq_some_iff.1 hz).1;omega)).1.2 z hz)
   have h2:=hS.slice (elems.map (·.1)) (rest.map (·.1))
   rw [List.map_map] at h2
   dsimp only
   rw [List.map_map]
   rw [show elems.length=len from by omega] at h1
   exact Nat.le_trans h1 h2
  ·have key:∀ i,i < len→∀ j,j < size→∃ v,w.cell? (a.add (i * size+j))=some v∧v.oneCell'=true∧(a.add (i * size+j)).block < w.heap.size∧∀ p,(cs (f i))[j]? = some p→PR w (fun _=>False) p v:=by
    intro i hi j hj
    obtain⟨_,cl,hc,hr⟩:=hf i hi
    obtain⟨_,hl,hall⟩:=World.cells?_some hc
    have hj2:j < cl.length:=by omega
    have h1:=hall j hj
    rw [Z07l,List.getElem?_eq_getElem hj2] at h1
    have hg:cl.getD j undef=cl[j]:=by simp [List.getD,hj2]
    refine⟨cl[j],h1,by rw [←hg];exact hr.one j hj2,?_,fun p hp=>by rw [←hg];exact hr.pr j p hp⟩
    have hb:=World.cells?_block hc hpos
    simpa [Z0a6] using hb
   have hn:((List.range len).map f).length=len:=by simp
   unfold roL
   rw [hn]
   refine .ro size len _ (some a) cap (fun i j=>(w.cell? (a.add (i * size+j))).getD undef) hlc hcm (fun h=>by cases h) (fun i hi=>?_) (fun h0=>⟨a,rfl,?_,fun h=>h.elim,fun i hi j hj=>?_⟩) (fun i hi j p hp=>?_)
   ·rw [hget i hi]
    obtain⟨_,cl,hc,hr⟩:=hf i hi
    obtain⟨_,hl,_⟩:=World.cells?_some hc
    rw [←hr.len];exact hl
   ·obtain⟨v,_,_,hb,_⟩:=key 0 h0 0 hpos
    simpa [Z0a6] using hb
   ·obtain⟨v,e,h1,_,_⟩:=key i hi j hj
    rw [e];exact⟨rfl,h1⟩
   ·rw [hget i hi] at hp
    have hj:j < size:=by
     obtain⟨_,cl,hc,hr⟩:=hf i hi
     obtain⟨_,hl,_⟩:=World.cells?_some hc
     have:=(List.getElem?_eq_some_iff.1 hp).1
     rw [←hr.len,hl] at this;exact this
    obtain⟨v,e,_,_,hpv⟩:=key i hi j hj
    simp only [e,Option.getD_some]
    exact hpv p hp
theorem FOpensU.nil {N:Nat} {off:Nat}:FOpensU enc P w bulk B N [] off (fun _:Unit=>[]) (fun _=>True) (fun _=>0):=by
 intro sp n vs xs _ _ _ _ _ hl
 simp at hl
 exact⟨(),trivial,Nat.zero_le _,by rw [List.drop_of_length_le (by omega)];exact Reads.nil⟩
theorem FOpensU.cons {N:Nat} {f:Field} {fs:List Field} {off:Nat} {α β:Type} {cs:α→List PV} {good:α→Prop} {me:α→Nat} {me':β→Nat} {cs':β→List PV} {good':β→Prop} {size:Nat} (ho:f.offset=off) (hsz:P.cellsOf f.type=size) (h:OpensU enc P w bulk B N f.type cs good me) (k:FOpensU enc P w bulk B N fs (off+size) cs' good' me') :
  FOpensU enc P w bulk B N (f :: fs) off (fun x:α × β=>cs x.1 ++ cs' x.2) (fun x=>good x.1∧good' x.2) (fun x=>me x.1+me' x.2):=by
 subst ho;subst hsz
 intro sp n vs xs hnN hxl hx hb hoff hl
 cases xs with
 |nil=>simp at hxl
 |cons y ys=>
  have h0:=hx 0 f rfl
  simp only [List.getElem?_cons_zero] at h0
  obtain⟨a,ha,ma,ra⟩:=h sp n _ _ hnN h0 (hb y (by simp))
  simp only [List.map_cons,List.sum_cons] at hl
  obtain⟨b,hb2,mb,rb⟩:=k sp n vs ys hnN (by simpa using hxl) (fun i g hg=>by simpa using hx (i+1) g (by simpa using hg)) (fun z hz=>hb z (by simp [hz])) (by omega) (by omega)
  refine⟨(a,b),⟨ha,hb2⟩,by simp only [List.map_cons,List.sum_cons];omega,?_⟩
  have e:vs.drop f.offset=(vs.drop f.offset).take (P.cellsOf f.type) ++ vs.drop (f.offset+P.cellsOf f.type):=by
   rw [←List.drop_drop,List.take_append_drop]
  rw [e]
  exact ra.append rb
theorem OpensU.struct (hB:BulkOk bulk) (hS:BulkSum bulk) {N:Nat} {t:TypeId} {fs:Array Field} {α:Type} {cs:α→List PV} {good:α→Prop} {me:α→Nat} (ht:P.underlying t=some (.struct fs)) (hc:P.cellsOf t=(fs.toList.map fun f=>P.cellsOf f.type).sum) (h:FOpensU enc P w bulk B N fs.toList 0 cs good me) :
  OpensU enc P w bulk B (N+1) t cs good (fun a=>me a+1):=by
 intro sp fuel vs x hfu hx hb
 obtain⟨xs,n,rfl,rfl,hl,hxl,hall⟩:=DataW.trod_struct ht hx
 obtain⟨a,ha,hma,hr⟩:=h sp n vs xs (by omega) (by simpa using hxl) (fun i f hf=>hall i f (by simpa using hf)) (fun y hy=>Nat.le_trans (hB.part _ _ (List.mem_map_of_mem hy)) hb) (Nat.zero_le _) (by rw [hl,hc];simp)
 refine⟨a,ha,?_,by simpa using hr⟩
 have:=hS.agg (xs.map (·.1))
 rw [List.map_map] at this
 exact Nat.le_trans (Nat.add_le_add_right hma 1) this
end
end Go.Abs
namespace Go.Abs
open Go.Proofs Go.RowKit
set_option maxRecDepth 10000
section
variable {H:Type} {enc:TypeId × Value→H} {w:World} {bulk:DataW H→Nat}
theorem Reads.sub {vs:List Value} {ps qs:List PV} (h:Reads w vs ps) (hs:PSubs ps qs):Reads w vs qs:=
 ⟨h.len.trans hs.length,fun i x e=>by obtain⟨p,hp,hpq⟩:=hs.get i x e;exact hpq.to _ _ _ (h.pr i p hp),h.one⟩
def goodRulO (r:Rul):Prop:=sizeE r.cond≤1073741824∧∀ i,i < r.steps.length→sizeE (r.steps.getD i default).expr≤1073741824
end
end Go.Abs
namespace Go.Abs
theorem Z0g2 {α:Type} (l:List α) {i:Nat} (d:α) (h:i < l.length):l.getD i d=l[i]:=by simp [List.getD,h]
def Asc (l:List Key):Prop:=l.Pairwise fun a b=>keyLess a b=true
def putK:List Key→Key→List Key
 | [],k=>[k]
 |x :: r,k=>if keyLess x k=true then x :: putK r k else k ::(x :: r).filter fun y=>decide (y≠k)
theorem mem_putK {l:List Key} {k x:Key}:x ∈ putK l k↔x=k∨x ∈ l:=by
 induction l with
 |nil=>simp [putK]
 |cons y r ih=>
  unfold putK
  split
  ·simp only [List.mem_cons,ih]
   constructor
   ·rintro (h|h|h)
    ·exact .inr (.inl h)
    ·exact .inl h
    ·exact .inr (.inr h)
   ·rintro (h|h|h)
    ·exact .inr (.inl h)
    ·exact .inl h
    ·exact .inr (.inr h)
  ·simp only [List.mem_cons,List.mem_filter,decide_eq_true_eq]
   constructor
   ·rintro (h|⟨h,_⟩)
    ·exact .inl h
    ·exact .inr h
   ·rintro (h|h)
    ·exact .inl h
    ·by_cases e:x=k
     ·exact .inl e
     ·exact .inr ⟨h,e⟩
theorem Z099 {l:List Key} {k:Key} (h:Asc l):Asc (putK l k):=by
 induction l with
 |nil=>simp [putK,Asc]
 |cons y r ih=>
  obtain⟨h1,h2⟩:=List.pairwise_cons.1 h
  unfold putK
  split
  ·rename_i hy
   refine List.pairwise_cons.2 ⟨fun x hx=>?_,ih h2⟩
   rcases mem_putK.1 hx with rfl|hx
   ·exact hy
   ·exact h1 x hx
  ·rename_i hy
   refine List.pairwise_cons.2 ⟨fun x hx=>?_,h.sublist (List.filter_sublist)⟩
   rw [List.mem_filter,decide_eq_true_eq] at hx
   obtain⟨hx,hne⟩:=hx
   rcases List.mem_cons.1 hx with rfl|hx
   ·exact(Z0j2 hne).resolve_left hy
   ·have h3:=h1 x hx
    rcases Z0j2 hne with h4|h4
    ·exact absurd (Z0j3 h3 h4) hy
    ·exact h4
def sortK (l:List Key):List Key:=l.foldl putK []
theorem Z0f6 {l acc:List Key} (h:Asc acc):Asc (l.foldl putK acc):=by
 induction l generalizing acc with
 |nil=>exact h
 |cons y r ih=>exact ih (Z099 h)
theorem Z09a (l:List Key):Asc (sortK l):=Z0f6 List.Pairwise.nil
theorem Z0or (l:List Key) (k:Key):(putK l k).length≤l.length+1:=by
 induction l with
 |nil=>simp [putK]
 |cons y r ih=>
  unfold putK
  split
  ·simp only [List.length_cons];omega
  ·simp only [List.length_cons]
   have:=List.length_filter_le (fun z=>decide (z≠k)) (y :: r)
   simp only [List.length_cons] at this
   omega
theorem Z0f7 {l acc:List Key}:(l.foldl putK acc).length≤acc.length+l.length:=by
 induction l generalizing acc with
 |nil=>simp
 |cons y r ih=>
  have h1:=ih (acc:=putK acc y)
  have h2:=Z0or acc y
  simp only [List.foldl_cons,List.length_cons];omega
theorem Z0ts (l:List Key):(sortK l).length≤l.length:=by
 have:=Z0f7 (l:=l) (acc:=[])
 simpa [sortK] using this
end Go.Abs
namespace Go.Abs
open Go.Proofs
set_option maxRecDepth 10000
structure Op where
 H:Hom
 L:List Item
 K:Key
 V:Val
 deriving Inhabited
section
variable {H:Type} {enc:TypeId × Value→H} {w:World} {bulk:DataW H→Nat}
end
end Go.Abs
namespace Go.Abs
open Go.Proofs
set_option maxRecDepth 10000
def afterV (x:Eff) (a:Attr) (p v:Val):Val:=
 limitV a (if x.kind=1 then ⟨a.kind,x.n,⟨#[]⟩⟩ else if x.kind=2 then p else if x.kind=3 then ⟨v.kind,satI (v.n+x.n),v.s⟩ else if x.kind=4 then ⟨v.kind,1 - v.n,v.s⟩ else v)
def doneV (x:Eff) (a:Attr) (p v:Val):Val:=
 limitV a (if x.kind=1 then ⟨v.kind,x.n,v.s⟩ else if x.kind=2 then p else if x.kind=3 then ⟨v.kind,v.n+x.n,v.s⟩ else if x.kind=4 then ⟨v.kind,1 - v.n,v.s⟩ else v)
theorem Z00a (x:Eff) (a:Attr) (p v:Val) (ha:smallA a) (hv:smallN v.n) (hx:x.kind=3→smallN x.n):AC Tryz.prog 297 [.pv (.agg (cEff x)),.pv (.agg (cAttr a)),.pv (.agg (cVal p)),.pv (.agg (cVal v))] [] (.pv (.agg (cVal (afterV x a p v)))) []:=by
 have ⟨h1,h2⟩:=hv
 refine AC.of_awp (T:=T) T_ok hm Tryz.call297 Tryz.func297 rfl rfl rfl ?_
 conv=>whnf
 repeat (any_goals (first
  |(refine⟨fun(h:(_:Bool)=true)=>?_,fun(h:(_:Bool)=false)=>?_⟩<;>(try simp only [Q0,Q1,Q2,Q3,Q4,Q5,Q6,Q7,Q8,reduceCtorEq] at h)<;>(conv=>whnf))
  |(refine .inl ⟨_,Z07f a ⟨a.kind,x.n,⟨#[]⟩⟩ ha,?_⟩;conv=>whnf)
  |(refine .inl ⟨_,Z07f a p ha,?_⟩;conv=>whnf)
  |(refine .inl ⟨_,Z01v v.n x.n hv (hx h),?_⟩;conv=>whnf)
  |(refine .inl ⟨_,Z07f a ⟨v.kind,satI (v.n+x.n),v.s⟩ ha,?_⟩;conv=>whnf)
  |(refine .inl ⟨_,Z07f a ⟨v.kind,1 - v.n,v.s⟩ ha,?_⟩;conv=>whnf)
  |(refine .inl ⟨_,Z07f a v ha,?_⟩;conv=>whnf)
  |(refine .inl ⟨wrap64 (by omega),?_⟩;conv=>whnf)))
 all_goals first
  |(rw [afterV,if_pos (by assumption)];exact .rfl)
  |(rw [afterV,if_neg (by assumption),if_pos (by assumption)];exact .rfl)
  |(rw [afterV,if_neg (by assumption),if_neg (by assumption),if_pos (by assumption)];exact .rfl)
  |(rw [afterV,if_neg (by assumption),if_neg (by assumption),if_neg (by assumption),if_pos (by assumption)];exact .rfl)
  |(rw [afterV,if_neg (by assumption),if_neg (by assumption),if_neg (by assumption),if_neg (by assumption)];exact .rfl)
theorem fits_iff {a:Attr} {v:Val}:fitsE a v=0↔(defE a=0∧valE v=0∧v.kind=a.kind∧¬ ((v.kind=2∧(v.n < a.min∨a.max < v.n))∨(v.kind=3∧(a.enum.length:Int)≤v.n))):=by
 unfold fitsE
 constructor
 ·intro h
  split at h
  ·contradiction
  ·split at h
   ·contradiction
   ·split at h
    ·cases h
    ·split at h
     ·cases h
     ·refine⟨by omega,by omega,by omega,by assumption⟩
 ·rintro ⟨h1,h2,h3,h4⟩
  rw [if_neg (by omega),if_neg (by omega),if_neg (by omega),if_neg h4]
theorem val_iff {v:Val}:valE v=0↔(0≤v.kind∧v.kind≤4∧((v.kind=0∨v.kind=4)→v.n=0)∧(v.kind=1→v.n=0∨v.n=1)∧(v.kind=2→inRange v.n=true)∧(v.kind=3→0≤v.n∧v.n≤63)∧v.s.size≤60∧(v.s=⟨#[]⟩∨v.kind=4)):=by
 unfold valE
 constructor
 ·intro h
  split at h
  ·cases h
  ·rename_i h1
   split at h
   ·cases h
   ·rename_i h2
    split at h
    ·cases h
    ·rename_i h3
     split at h
     ·cases h
     ·rename_i h4
      refine⟨by omega,by omega,by omega,by omega,fun hk=>?_,by omega,by omega,?_⟩
      ·cases hi:inRange v.n with
       |true=>rfl
       |false=>exact absurd (.inr (.inr (.inl ⟨hk,hi⟩))) h2
      ·by_cases hs:v.s=⟨#[]⟩
       ·exact .inl hs
       ·exact .inr (Classical.not_not.1 fun hk=>h4 ⟨hs,hk⟩)
 ·rintro ⟨h1,h2,h3,h4,h5,h6,h7,h8⟩
  rw [if_neg (by omega),if_neg,if_neg (by omega),if_neg]
  ·rintro ⟨hs,hk⟩;rcases h8 with h|h
   ·exact hs h
   ·exact hk h
  ·rintro (h|h|h|h)
   ·omega
   ·omega
   ·rw [h5 h.1] at h;cases h.2
   ·omega
theorem Z0c6 {a:Attr} (h:defE a=0) (hk:a.kind=2):inRange a.min=true∧inRange a.max=true∧a.min≤a.max:=by
 unfold defE at h
 split at h
 ·cases h
 ·split at h
  ·cases h
  ·split at h
   ·cases h
   ·rename_i h1
    have h2:¬ (inRange a.min=false∨inRange a.max=false∨a.max < a.min):=fun x=>h1 ⟨hk,x⟩
    refine⟨?_,?_,?_⟩
    ·cases e:inRange a.min with
     |true=>rfl
     |false=>exact absurd (.inl e) h2
    ·cases e:inRange a.max with
     |true=>rfl
     |false=>exact absurd (.inr (.inl e)) h2
    ·exact Int.not_lt.1 fun x=>h2 (.inr (.inr x))
theorem inRange_iff {n:Int}:inRange n=true↔-1099511627776≤n∧n≤1099511627776:=by simp [inRange]
theorem Z0k5 {a:Attr} {v:Val} (h:fitsE a v=0):limitV a v=v:=by
 rw [fits_iff] at h
 unfold limitV
 split
 ·rename_i hh
  obtain⟨k,n,s⟩:=v
  simp only at *
  congr 1
  unfold clampI
  have:=Z0c6 h.1 hh.2.1
  rw [if_neg (by omega),if_neg (by omega)]
 ·rfl
theorem Z0k6 {a:Attr} {n:Int} {s:ByteArray} (hd:defE a=0) (hk:a.kind=2) (hs:s=⟨#[]⟩):limitV a ⟨2,n,s⟩=⟨2,clampI n a.min a.max,s⟩∧fitsE a (limitV a ⟨2,n,s⟩)=0:=by
 have e:limitV a ⟨2,n,s⟩=⟨2,clampI n a.min a.max,s⟩:=by
  unfold limitV;rw [if_pos ⟨hd,hk,rfl⟩]
 refine⟨e,?_⟩
 rw [e,fits_iff,val_iff]
 obtain⟨h1,h2,h3⟩:=Z0c6 hd hk
 rw [inRange_iff] at h1 h2
 have hc:a.min≤clampI n a.min a.max∧clampI n a.min a.max≤a.max:=by unfold clampI;(repeat' split)<;>omega
 simp only [inRange_iff]
 subst hs
 refine⟨hd,⟨by omega,by omega,by omega,by omega,by omega,by omega,by decide,.inl rfl⟩,by omega,by omega⟩
theorem Z0xb {x:Eff} {a p:Attr} (h:suitsB x a p=true):(x.kind=1∧a.kind≠4∧fitsE a ⟨a.kind,x.n,⟨#[]⟩⟩=0)∨(x.kind=2∧a.kind=p.kind∧a.enum=p.enum)∨(x.kind=3∧a.kind=2)∨(x.kind≠1∧x.kind≠2∧x.kind≠3∧a.kind=1):=by
 unfold suitsB at h
 split at h
 ·rename_i hk;simp only [Bool.and_eq_true,decide_eq_true_eq] at h;exact .inl ⟨hk,h⟩
 ·split at h
  ·rename_i hk;simp only [alikeB,Bool.and_eq_true,decide_eq_true_eq] at h;exact .inr (.inl ⟨hk,h⟩)
  ·split at h
   ·rename_i hk;simp only [decide_eq_true_eq] at h;exact .inr (.inr (.inl ⟨hk,h⟩))
   ·simp only [decide_eq_true_eq] at h;exact .inr (.inr (.inr ⟨by assumption,by assumption,by assumption,h⟩))
def acceptsE (d:Cmd) (p:Val):Int:=if d.param.kind≠0 then fitsE d.param p else if p≠noVal then 11 else 0
theorem Z07r {x:Eff} {a:Attr} {d:Cmd} {p v:Val} (hk:1≤x.kind∧x.kind≤4) (hs:suitsB x a d.param=true) (hp:acceptsE d p=0) (hv:fitsE a v=0) (hn:x.kind=3→satI x.n=x.n) :
  fitsE a (afterV x a p v)=0∧doneV x a p v=afterV x a p v:=by
 obtain⟨hd,hval,hvk,hvb⟩:=fits_iff.1 hv
 have hv2:=val_iff.1 hval
 rcases Z0xb hs with ⟨h1,h2,h3⟩|⟨h1,h2,h3⟩|⟨h1,h2⟩|⟨h1,h2,h3,h4⟩
 ·have hvs:v.s=⟨#[]⟩:=by rcases hv2.2.2.2.2.2.2.2 with h|h;exact h;omega
  unfold afterV doneV
  rw [if_pos h1,if_pos h1,hvk,hvs]
  exact⟨by rw [Z0k5 h3];exact h3,rfl⟩
 ·unfold afterV doneV
  rw [if_neg (by omega),if_pos h1,if_neg (by omega),if_pos h1]
  refine⟨?_,rfl⟩
  have hak:1≤a.kind:=by
   unfold defE at hd
   split at hd
   ·cases hd
   ·split at hd
    ·cases hd
    ·omega
  have hpf:fitsE d.param p=0:=by
   unfold acceptsE at hp;rw [if_pos (by omega)] at hp;exact hp
  obtain⟨hpd,hpv,hpk,hpb⟩:=fits_iff.1 hpf
  have hp2:=val_iff.1 hpv
  by_cases hk2:a.kind=2
  ·have e:p=⟨2,p.n,p.s⟩:=by cases p;simp only at *;congr 1;omega
   rw [e]
   refine(Z0k6 hd hk2 ?_).2
   rcases hp2.2.2.2.2.2.2.2 with h|h;exact h;omega
  ·have e:limitV a p=p:=by unfold limitV;rw [if_neg (by omega)]
   rw [e,fits_iff]
   refine⟨hd,hpv,by omega,?_⟩
   rw [h3];omega
 ·have hvs:v.s=⟨#[]⟩:=by rcases hv2.2.2.2.2.2.2.2 with h|h;exact h;omega
  have hvk2:v.kind=2:=by omega
  unfold afterV doneV
  rw [if_neg (by omega),if_neg (by omega),if_pos h1,if_neg (by omega),if_neg (by omega),if_pos h1,hvk2]
  have e1:=Z0k6 (n:=satI (v.n+x.n)) hd h2 hvs
  have e2:=Z0k6 (n:=v.n+x.n) hd h2 hvs
  refine⟨e1.2,?_⟩
  rw [e1.1,e2.1]
  congr 1
  obtain⟨h3,h4,h5⟩:=Z0c6 hd h2
  rw [inRange_iff] at h3 h4
  unfold clampI satI
  (repeat' split)<;>omega
 ·have h5:x.kind=4:=by omega
  unfold afterV doneV
  simp only [h5,if_true,if_false,reduceIte,Int.reduceEq]
  have e:limitV a ⟨v.kind,1 - v.n,v.s⟩=⟨v.kind,1 - v.n,v.s⟩:=by unfold limitV;rw [if_neg (by omega)]
  rw [e,fits_iff,val_iff]
  simp only
  refine⟨⟨hd,⟨by omega,by omega,?_,?_,?_,?_,by omega,hv2.2.2.2.2.2.2.2⟩,hvk,?_⟩,trivial⟩
  all_goals first|omega|(intro h;omega)
theorem Z0en {a:Attr} {v:Val} (h:fitsE a v=0):smallN v.n:=by
 have h2:=val_iff.1 (fits_iff.1 h).2.1
 have:v.kind=0∨v.kind=1∨v.kind=2∨v.kind=3∨v.kind=4:=by omega
 unfold smallN
 rcases this with e|e|e|e|e
 ·have:=h2.2.2.1 (.inl e);omega
 ·have:=h2.2.2.2.1 e;omega
 ·have:=inRange_iff.1 (h2.2.2.2.2.1 e);omega
 ·have:=h2.2.2.2.2.2.1 e;omega
 ·have:=h2.2.2.1 (.inr e);omega
theorem Z009 (d:Cmd) (p:Val) (hd:smallC d):AC Tryz.prog 295 [.pv (.agg (cCmd d)),.pv (.agg (cVal p))] [] (.pv (vint (acceptsE d p))) []:=by
 refine AC.of_awp (T:=T) T_ok hm Tryz.call295 Tryz.func295 rfl rfl rfl ?_
 conv=>whnf
 repeat (any_goals (first
  |(refine⟨fun(h:(_:Bool)=true)=>?_,fun(h:(_:Bool)=false)=>?_⟩<;>(try simp only [Q0,Q1,Q2,Q3,Q4,Q5,Q6,Q7,Q8,reduceCtorEq] at h)<;>(conv=>whnf))
  |(refine .inl ⟨_,Z07d d.param p hd.1,?_⟩;conv=>whnf)))
 all_goals try rw [show(decide (p.kind=0) && (decide (p.n=0) && (decide (p.s=⟨#[]⟩) && true)))=decide (p=noVal) from val_eq p noVal] at h
 all_goals try simp only [decide_eq_true_eq,decide_eq_false_iff_not] at h
 all_goals first
  |exact PSub.int (by simp [acceptsE, *])
  |exact PSub.int (by simp_all [acceptsE])
end Go.Abs
namespace Go.Abs
open Go.Proofs
set_option maxRecDepth 10000
theorem Z0em {n:Nat} {p:Nat→Bool}:(firstI n p < n∧p (firstI n p)=true∧∀ j,j < firstI n p→p j=false)∨(firstI n p=n∧∀ j,j < n→p j=false):=by
 unfold firstI
 split
 ·rename_i i e
  rw [List.find?_range_eq_some] at e
  exact .inl ⟨by simpa using e.2.1,e.1,fun j hj=>by simpa using e.2.2 j hj⟩
 ·rename_i e
  rw [List.find?_eq_none] at e
  exact .inr ⟨rfl,fun j hj=>by simpa using e j (by simpa using hj)⟩
structure Checked (c:Clu):Prop where
 distinct:∀ i j,i < j→j < c.attrs.length→(c.attrs.getD i default).name≠(c.attrs.getD j default).name
 attrs:c.attrs.length≤12
 cmds:∀ i,i < c.commands.length→cmdE c i=0
 defs:∀ i,i < c.attrs.length→defE (c.attrs.getD i default)=0
theorem Z0aw {c:Clu} (h:checkE c=0):Checked c:=by
 unfold checkE at h
 split at h
 ·cases h
 split at h
 ·cases h
 rename_i hw
 split at h
 ·contradiction
 rename_i ha
 split at h
 ·contradiction
 rename_i hc
 have ha:=Z0eh (Classical.not_not.1 ha)
 refine⟨fun i j hi hj e=>?_,?_,Z0eh (Classical.not_not.1 hc),fun i hi=>?_⟩
 ·have:=ha j hj
  unfold attrE at this
  split at this
  ·contradiction
  ·rw [if_pos (Z08e hi (by simpa [-List.getD_eq_getElem?_getD] using e))] at this
   cases this
 ·rw [Bool.not_eq_true] at hw
  simp only [wideB,Bool.or_eq_false_iff,decide_eq_false_iff_not] at hw
  omega
 ·have:=ha i hi
  unfold attrE at this
  split at this
  ·contradiction
  ·rename_i h0;exact Classical.not_not.1 h0
theorem Z0ba {c:Clu} {i:Nat} (h:cmdE c i=0):∀ j,j < (c.commands.getD i default).effects.length→effE c (c.commands.getD i default).param ((c.commands.getD i default).effects.getD j default)=0:=by
 unfold cmdE at h
 split at h
 ·cases h
 split at h
 ·cases h
 split at h
 ·cases h
 split at h
 ·omega
 exact Z0eh h
theorem Z0ci {c:Clu} {p:Attr} {x:Eff} (h:effE c p x=0):(1≤x.kind∧x.kind≤4)∧attrAt c.attrs x.attr < c.attrs.length∧suitsB x (c.attrs.getD (attrAt c.attrs x.attr) default) p=true∧(x.kind=3→satI x.n=x.n):=by
 unfold effE at h
 split at h
 ·cases h
 split at h
 ·cases h
 rename_i h1 h2
 have h2:=Classical.not_not.1 h2
 have e:attrOf c.attrs x.attr=c.attrs.getD (attrAt c.attrs x.attr) default:=by rw [attrOf,if_pos h2]
 rw [e] at h
 split at h
 ·cases h
 split at h
 ·cases h
 rename_i h3 h4
 split at h
 ·cases h
 rename_i h5
 refine⟨by omega,h2,by simpa using h4,fun hk=>Classical.not_not.1 fun hn=>h5 ⟨hk,hn⟩⟩
theorem Z09l {l:List Attr} {s:ByteArray} (h:attrAt l s < l.length):(l.getD (attrAt l s) default).name=s:=by
 unfold attrAt at *
 rcases Z0em (n:=l.length) (p:=fun i=>decide ((l.getD i default).name=s)) with ⟨_,h2,_⟩|⟨h1,_⟩
 ·simpa [-List.getD_eq_getElem?_getD] using h2
 ·omega
theorem Z09k {c:Clu} (hc:Checked c) {s:ByteArray} {j:Nat} (hj:j < c.attrs.length) (h:(c.attrs.getD j default).name=s):attrAt c.attrs s=j:=by
 have hlt:attrAt c.attrs s < c.attrs.length:=by
  unfold attrAt
  rcases Z0em (n:=c.attrs.length) (p:=fun i=>decide ((c.attrs.getD i default).name=s)) with ⟨h1,_⟩|⟨_,h2⟩
  ·exact h1
  ·have:=h2 j hj;simp [h,-List.getD_eq_getElem?_getD] at this
 have hn:=Z09l hlt
 rcases Nat.lt_trichotomy (attrAt c.attrs s) j with h1|h1|h1
 ·exact absurd (hn.trans h.symm) (hc.distinct _ _ h1 hj)
 ·exact h1
 ·exact absurd (h.trans hn.symm) (hc.distinct _ _ h1 hlt)
def stepL (c:Clu) (p:Val) (x:Eff) (out:List Val):List Val:=out.set (attrAt c.attrs x.attr) (afterV x (c.attrs.getD (attrAt c.attrs x.attr) default) p (out.getD (attrAt c.attrs x.attr) default))
def applyTo (c:Clu) (d:Cmd) (p:Val) (vals:List Val):Nat→List Val
 |0=>vals
 |k+1=>stepL c p (d.effects.getD k default) (applyTo c d p vals k)
def fitsAll (c:Clu) (vals:List Val):Prop:=vals.length=c.attrs.length∧∀ i,i < c.attrs.length→fitsE (c.attrs.getD i default) (vals.getD i default)=0
theorem Z0g3 {α:Type} [Inhabited α] {l:List α} {i j:Nat} {x:α}:(l.set i x).getD j default=if j=i∧i < l.length then x else l.getD j default:=by
 by_cases e:j=i
 ·subst e
  by_cases h:j < l.length
  ·rw [if_pos ⟨rfl,h⟩];simp [List.getD,h]
  ·rw [if_neg (by omega)];simp [List.getD,Nat.le_of_not_lt h]
 ·rw [if_neg (by omega)]
  simp [List.getD,List.getElem?_set_ne (Ne.symm e)]
theorem Z0uz {c:Clu} {d:Cmd} {p:Val} {x:Eff} {out:List Val} (hx:effE c d.param x=0) (hp:acceptsE d p=0) (h:fitsAll c out):fitsAll c (stepL c p x out):=by
 obtain⟨h1,h2,h3,h4⟩:=Z0ci hx
 refine⟨by rw [stepL,List.length_set];exact h.1,fun i hi=>?_⟩
 rw [stepL,Z0g3]
 split
 ·rename_i e
  rw [e.1]
  exact(Z07r h1 h3 hp (h.2 _ h2) h4).1
 ·exact h.2 i hi
theorem Z08o {c:Clu} {d:Cmd} {p:Val} {vals:List Val} (hd:∀ j,j < d.effects.length→effE c d.param (d.effects.getD j default)=0) (hp:acceptsE d p=0) (h:fitsAll c vals):∀ k,k≤d.effects.length→fitsAll c (applyTo c d p vals k)
 |0,_=>h
 |k+1,hk=>Z0uz (hd k (by omega)) hp (Z08o hd hp h k (by omega))
def badV (c:Clu) (vals:List Val) (i:Nat):Bool:=decide (fitsE (c.attrs.getD i default) (vals.getD i default)≠0)
def applyE (c:Clu) (s:ByteArray) (p:Val) (vals:List Val):Int:=
 if checkE c≠0 then checkE c else if ¬ cmdAt c.commands s < c.commands.length then 8 else if acceptsE (cmdOf c.commands s) p≠0 then acceptsE (cmdOf c.commands s) p
 else if vals.length≠c.attrs.length then 1 else if anyN vals.length (badV c vals)=true then 1 else 0
def applyL (c:Clu) (s:ByteArray) (p:Val) (vals:List Val):List Val:=if applyE c s p vals=0 then applyTo c (cmdOf c.commands s) p vals (cmdOf c.commands s).effects.length else []
theorem Z0bc {c:Clu} (hc:smallK c) {s:ByteArray}:smallC (cmdOf c.commands s):=by
 unfold cmdOf
 split
 ·exact hc.2.2.2.1 _
 ·exact⟨Nat.zero_le _,Nat.zero_le _⟩
theorem Z0bb {c:Clu} (hc:Checked c) {s:ByteArray} (h:cmdAt c.commands s < c.commands.length):∀ j,j < (cmdOf c.commands s).effects.length→effE c (cmdOf c.commands s).param ((cmdOf c.commands s).effects.getD j default)=0:=by
 rw [cmdOf,if_pos h]
 exact Z0ba (hc.cmds _ h)
theorem Z0sh {n:Int} (h:satI n=n):smallN n:=by unfold satI at h;unfold smallN;omega
set_option maxHeartbeats 4000000 in
theorem Z004 (c:Clu) (s:ByteArray) (p:Val) (vals:List Val) (hc:smallK c) (hl:smallL vals):AC Tryz.prog 293 [.pv (.agg (cClu c)),.pv (vstr s),.pv (.agg (cVal p)),.pv (roL 3 cVal vals)] [] (.pv (.tup [roL 3 cVal (applyL c s p vals),vint (applyE c s p vals)])) []:=by
 have hl2:vals.length≤1048576:=hl
 have hds:=Z0bc hc (s:=s)
 have hde:(cmdOf c.commands s).effects.length≤1048576:=hds.2
 refine AC.of_awp (T:=T) T_ok hm Tryz.call293 Tryz.func293 rfl rfl rfl ?_
 conv=>whnf
 refine .inl ⟨_,Z006 c hc,?_⟩
 conv=>whnf
 refine⟨fun h=>?_,fun h=>?_⟩<;>(try simp only [Q0,Q1,Q2,Q3,Q4,Q5,Q6,Q7,Q8,reduceCtorEq] at h)<;>(conv=>whnf)
 ·have e:applyE c s p vals=checkE c:=by rw [applyE,if_pos h]
  rw [applyL,e]
  refine⟨?_,?_⟩<;>(conv=>whnf)
  ·exact PSub.nilL (by simp [*])
  ·exact .rfl
 have h0:=h
 refine .inl ⟨_,Z007 c s hc,?_⟩
 conv=>whnf
 refine⟨fun h=>?_,fun h=>?_⟩<;>(try simp only [Q0,Q1,Q2,Q3,Q4,Q5,Q6,Q7,Q8,reduceCtorEq] at h)<;>(conv=>whnf)
 ·have e:applyE c s p vals=8:=by rw [applyE,if_neg (by simpa using h0),if_pos h]
  rw [applyL,e]
  refine⟨?_,?_⟩<;>(conv=>whnf)
  ·exact PSub.nilL (by simp [*])
  ·exact .rfl
 have h1:=h
 refine .inl ⟨_,Z009 (cmdOf c.commands s) p hds,?_⟩
 conv=>whnf
 refine⟨fun h=>?_,fun h=>?_⟩<;>(try simp only [Q0,Q1,Q2,Q3,Q4,Q5,Q6,Q7,Q8,reduceCtorEq] at h)<;>(conv=>whnf)
 ·have e:applyE c s p vals=acceptsE (cmdOf c.commands s) p:=by rw [applyE,if_neg (by simpa using h0),if_neg (by simpa using h1),if_pos h]
  rw [applyL,e]
  refine⟨?_,?_⟩<;>(conv=>whnf)
  ·exact PSub.nilL (by simp [*])
  ·exact .rfl
 have h2:=h
 refine⟨fun h=>?_,fun h=>?_⟩<;>(try simp only [Q0,Q1,Q2,Q3,Q4,Q5,Q6,Q7,Q8,reduceCtorEq] at h)<;>(conv=>whnf)
 ·have e:applyE c s p vals=1:=by rw [applyE,if_neg (by simpa using h0),if_neg (by simpa using h1),if_neg (by simpa using h2),if_pos (by omega)]
  rw [applyL,e]
  refine⟨?_,?_⟩<;>(conv=>whnf)
  ·exact PSub.nilL (by simp [*])
  ·exact .rfl
 have h3:vals.length=c.attrs.length:=by omega
 clear h
 have hk:=Z0aw h0
 have heff:=Z0bb hk h1
 refine loop_k (ι:=Nat) [3,4,6,11,46,47] [4,6,11] (fun k=>k≤vals.length∧(∀ j,j < k→badV c vals j=false)) (fun k=>vals.length - k) 0 (fun k=>[(48,.pv (vint k))]) (fun _=>[]) [] ⟨Nat.zero_le _,fun j h=>absurd h (by omega)⟩ ?_ (fun k hk=>?_)
 ·(repeat' (first|exact PSub.rfl|exact rfl|exact PSubs.rfl|exact trivial|exact PSub.lit_sb rfl|refine And.intro ?_ ?_))
 obtain⟨hkn,hinv⟩:=hk
 conv=>whnf
 refine⟨fun h=>?_,fun h=>?_⟩<;>(try simp only [Q0,Q1,Q2,Q3,Q4,Q5,Q6,Q7,Q8,reduceCtorEq] at h)<;>(conv=>whnf)
 ·repeat (any_goals (first
   |(refine⟨fun(h:(_:Bool)=true)=>?_,fun(h:(_:Bool)=false)=>?_⟩<;>(try simp only [Q0,Q1,Q2,Q3,Q4,Q5,Q6,Q7,Q8,reduceCtorEq] at h)<;>(conv=>whnf))
   |(refine .inl ⟨_,Z07d (c.attrs.getD k default) (vals.getD k default) (hc.2.1 k),?_⟩;conv=>whnf)
   |(refine And.intro (by(try simp only [Int.toNat_natCast]);omega) ?_;conv=>whnf)
   |(refine And.intro (show(_:Bool)=true from by kernel_rfl) ?_;conv=>whnf)
   |(refine .inl ⟨wrap64 (by omega),?_⟩;conv=>whnf)))
  ·have e:applyE c s p vals=1:=by rw [applyE,if_neg (by simpa using h0),if_neg (by simpa using h1),if_neg (by simpa using h2),if_neg (by omega),if_pos (Z08e (k:=k) (by omega) (by simpa [badV,-List.getD_eq_getElem?_getD] using h))]
   rw [applyL,e]
   refine⟨?_,?_⟩<;>(conv=>whnf)
   ·exact PSub.nilL (by simp [*])
   ·exact .rfl
  ·refine⟨k+1,[],⟨by omega,?_⟩,by first|omega|(dsimp only;omega),?_⟩
   rotate_left
   ·(repeat' (first|exact PSub.rfl|exact rfl|exact PSubs.rfl|exact trivial|exact PSub.lit_sb rfl|refine And.intro ?_ ?_))
   intro j hj
   by_cases e:j=k
   ·subst e;simpa [badV,-List.getD_eq_getElem?_getD] using h
   ·exact hinv j (by omega)
 have hnb:anyN vals.length (badV c vals)=false:=Z08a fun j hj=>hinv j (by omega)
 have hfa:fitsAll c vals:=⟨h3,fun i hi=>by have:=hinv i (by omega);simpa [badV,-List.getD_eq_getElem?_getD] using this⟩
 have e:applyE c s p vals=0:=by rw [applyE,if_neg (by simpa using h0),if_neg (by simpa using h1),if_neg (by simpa using h2),if_neg (by omega),hnb,if_neg (by decide)]
 have eL:applyL c s p vals=applyTo c (cmdOf c.commands s) p vals (cmdOf c.commands s).effects.length:=by rw [applyL,if_pos e]
 rw [e,eL]
 generalize cmdOf c.commands s=d at *
 have hfit:=Z08o heff h2 hfa
 clear h hinv hkn hnb
 refine .inr (.inl ⟨_,_,_,Z05s _ _ hl2,?_⟩)
 conv=>whnf
 refine loop_k (ι:=Nat) [4,6,16,65,66] [4,6] (fun k=>k≤d.effects.length∧True) (fun k=>d.effects.length - k) 0 (fun k=>[(67,.pv (vint k))]) (fun k=>[(63,rowL 3 cVal (applyTo c d p vals k))]) [] ⟨Nat.zero_le _,trivial⟩ ?_ (fun k hk=>?_)
 ·(repeat' (first|exact PSub.rfl|exact rfl|exact PSubs.rfl|exact trivial|exact PSub.lit_sb rfl|refine And.intro ?_ ?_));all_goals ((intro i hi;exact PSubs.rfl))
 obtain⟨hkn,hinv⟩:=hk
 conv=>whnf
 refine⟨fun h=>?_,fun h=>?_⟩<;>(try simp only [Q0,Q1,Q2,Q3,Q4,Q5,Q6,Q7,Q8,reduceCtorEq] at h)<;>(conv=>whnf)
 ·repeat (any_goals (first
   |(refine And.intro (by(try simp only [Int.toNat_natCast]);omega) ?_;conv=>whnf)))
  have hx:=heff k (by omega)
  obtain⟨g1,g2,g3,g4⟩:=Z0ci hx
  have hf:=hfit k (by omega)
  have hf2:=Z0uz hx h2 hf
  refine loop_k (ι:=Nat) [4,6,16,18,65,66,67,72,73] [4,6,18] (fun j=>j≤c.attrs.length∧True) (fun j=>c.attrs.length - j) 0 (fun j=>[(74,.pv (vint j))]) (fun j=>[(63,rowL 3 cVal (if attrAt c.attrs (d.effects.getD k default).attr < j then stepL c p (d.effects.getD k default) (applyTo c d p vals k) else applyTo c d p vals k))]) [] ⟨Nat.zero_le _,trivial⟩ ?_ (fun j hk=>?_)
  ·(repeat' (first|exact PSub.rfl|exact rfl|exact PSubs.rfl|exact trivial|exact PSub.lit_sb rfl|refine And.intro ?_ ?_));all_goals ((first|(simp only [Nat.not_lt_zero,if_false];done)|(intro i hi;simp only [Nat.not_lt_zero,if_false];exact PSubs.rfl)))
  obtain⟨hkn,hinv⟩:=hk
  conv=>whnf
  have hL:fitsAll c (if attrAt c.attrs (d.effects.getD k default).attr < j then stepL c p (d.effects.getD k default) (applyTo c d p vals k) else applyTo c d p vals k):=by split<;>assumption
  obtain⟨L,hLe⟩:∃ L,L=if attrAt c.attrs (d.effects.getD k default).attr < j then stepL c p (d.effects.getD k default) (applyTo c d p vals k) else applyTo c d p vals k:=⟨_,rfl⟩
  rw [←hLe] at hL ⊢
  have hLl:L.length=c.attrs.length:=hL.1
  repeat (any_goals (first
   |(refine⟨fun(h:(_:Bool)=true)=>?_,fun(h:(_:Bool)=false)=>?_⟩<;>(try simp only [Q0,Q1,Q2,Q3,Q4,Q5,Q6,Q7,Q8,reduceCtorEq] at h)<;>(conv=>whnf))
   |(refine .inl ⟨_,Z00a (d.effects.getD k default) (c.attrs.getD j default) p (L.getD j default) (hc.2.1 j) (Z0en (hL.2 j (by omega))) (fun hk3=>Z0sh (g4 hk3)),?_⟩;conv=>whnf)
   |(refine And.intro (by(try simp only [Int.toNat_natCast]);omega) ?_;conv=>whnf)
   |(refine And.intro (show(_:Bool)=true from by kernel_rfl) ?_;conv=>whnf)
   |(refine .inl ⟨wrap64 (by omega),?_⟩;conv=>whnf)))
  ·have ej:=Z09k hk (j:=j) (by omega) h
   have e1:L=applyTo c d p vals k:=by rw [hLe,if_neg (by omega)]
   refine⟨j+1,[],⟨by omega,trivial⟩,by omega,?_⟩
   rw [if_pos (by omega),stepL,ej,←e1]
   (repeat' (first|exact PSub.rfl|exact rfl|exact PSubs.rfl|exact trivial|exact PSub.lit_sb rfl|refine And.intro ?_ ?_))
   ·simp
   ·refine Z0qx (i:=j) (F:=updAt _ _ _ _) (fun i hi e=>?_) (fun hi=>?_)
    ·simp only [Int.toNat_natCast];rw [Z0yf e];exact PSubs.rfl
    ·simp only [Int.toNat_natCast];rw [Z0yg];exact PSubs.rfl
  ·have ej:attrAt c.attrs (d.effects.getD k default).attr≠j:=fun e=>h (by rw [←e];exact Z09l g2)
   refine⟨j+1,[],⟨by omega,trivial⟩,by omega,?_⟩
   have e1:(if attrAt c.attrs (d.effects.getD k default).attr < j+1 then stepL c p (d.effects.getD k default) (applyTo c d p vals k) else applyTo c d p vals k)=L:=by
    rw [hLe]
    by_cases h5:attrAt c.attrs (d.effects.getD k default).attr < j
    ·rw [if_pos h5,if_pos (by omega)]
    ·rw [if_neg h5,if_neg (by omega)]
   rw [e1]
   (repeat' (first|exact PSub.rfl|exact rfl|exact PSubs.rfl|exact trivial|exact PSub.lit_sb rfl|refine And.intro ?_ ?_))
   intro i hi;exact PSubs.rfl
  ·have e1:L=applyTo c d p vals (k+1):=by rw [hLe,if_pos (by omega),applyTo]
   refine⟨k+1,[],⟨by omega,trivial⟩,by omega,?_⟩
   rw [←e1]
   (repeat' (first|exact PSub.rfl|exact rfl|exact PSubs.rfl|exact trivial|exact PSub.lit_sb rfl|refine And.intro ?_ ?_))
   intro i hi;exact PSubs.rfl
 ·have ek:k=d.effects.length:=by omega
  subst ek
  skip
  refine⟨?_,?_⟩<;>(conv=>whnf)
  ·exact .rfl
  ·exact .rfl
end Go.Abs
namespace Go.Abs
open Go.Proofs
set_option maxRecDepth 10000
structure Call where
 H:Hom
 L:List Item
 Dev:Int
 C:ByteArray
 Name:ByteArray
 Param:Val
 deriving Inhabited
section
variable {H:Type} {enc:TypeId × Value→H} {w:World} {bulk:DataW H→Nat}
end
end Go.Abs
namespace Go.Abs
open Go.Proofs
theorem Z0tu (l:List Key) (k:Key):sortK (l ++ [k])=putK (sortK l) k:=by unfold sortK;rw [List.foldl_append];rfl
end Go.Abs
namespace Go.Abs
variable [Globals]
structure Scene where
 name:ByteArray
 items:List Item
 deriving Inhabited,DecidableEq
structure Cause where
 kind:Int
 name:ByteArray
 prio:Int
 deriving Inhabited,DecidableEq
structure Write where
 key:Key
 value:Val
 cause:Cause
 order:Int
 deriving Inhabited,DecidableEq
def cSce (s:Scene):List PV:=[vstr s.name,roL 7 cItem s.items]
def cCause (c:Cause):List PV:=[vint c.kind,vstr c.name,vint c.prio]
def cWrite (w:Write):List PV:=cKey w.key ++ (cVal w.value ++ (cCause w.cause ++ [vint w.order]))
def noScene:Scene:=⟨⟨#[]⟩,[]⟩
theorem Z0ej {n:Nat} {p:Nat→Bool}:(firstI n p < n∧p (firstI n p)=true∧∀ j,j < firstI n p→p j=false)∨(firstI n p=n∧∀ j,j < n→p j=false):=by
 unfold firstI
 split
 ·rename_i i e
  rw [List.find?_range_eq_some] at e
  exact .inl ⟨by simpa using e.2.1,e.1,fun j hj=>by simpa using e.2.2 j hj⟩
 ·rename_i e
  rw [List.find?_eq_none] at e
  exact .inr ⟨rfl,fun j hj=>by simpa using e j (by simpa using hj)⟩
def findI (l:List Item) (q:Key):Option Item:=l.find? fun x=>decide (x.key=q)
theorem Z0dw (l:List Item) (q:Key):findI l q=if itemAt l q < l.length then some (l.getD (itemAt l q) default) else none:=by
 unfold findI itemAt
 rcases Z0ej (n:=l.length) (p:=fun i=>decide ((l.getD i default).key=q)) with ⟨h1,h2,h3⟩|⟨h1,h2⟩
 ·rw [if_pos h1,Z0g2 _ _ h1,List.find?_eq_some_iff_getElem]
  rw [Z0g2 _ _ h1] at h2
  refine⟨h2,_,h1,rfl,fun j hj=>?_⟩
  have:=h3 j hj
  rw [Z0g2 _ _ (by omega)] at this
  simpa using this
 ·rw [if_neg (by omega),List.find?_eq_none]
  intro x hx
  obtain⟨i,hi,rfl⟩:=List.getElem_of_mem hx
  have:=h2 i hi
  rw [Z0g2 _ _ hi] at this
  simpa using this
theorem Z0g5 (l:List Item) (q:Key):getI l q=(findI l q).getD noItem:=by
 rw [getI,Z0dw];split<;>rfl
def sceE (H:Hom) (l:List Item) (i:Nat):Int:=
 if (findA H (l.getD i default).key).isSome=false then 8 else if ((findA H (l.getD i default).key).getD noAttr).writable=false then 24
 else if fitsE ((findA H (l.getD i default).key).getD noAttr) (l.getD i default).value≠0 then fitsE ((findA H (l.getD i default).key).getD noAttr) (l.getD i default).value
 else if (l.getD i default).version≠0 then 2 else if 0 < i∧keyLess (l.getD (i - 1) default).key (l.getD i default).key=false then 14 else 0
def checkS (H:Hom) (s:Scene):Int:=
 if homE H≠0 then homE H else if validName s.name=false then 10 else if 256 < s.items.length then 3 else firstE s.items.length (sceE H s.items)
def applyS (s:Scene) (c:Cause) (n:Nat):List Write:=(List.range n).map fun i=>⟨(s.items.getD i default).key,(s.items.getD i default).value,c,i⟩
def sceAt (l:List Scene) (s:ByteArray):Nat:=firstI l.length fun i=>decide ((l.getD i default).name=s)
def findS (l:List Scene) (s:ByteArray):Scene:=if sceAt l s < l.length then l.getD (sceAt l s) default else noScene
end Go.Abs
namespace Go.Abs
open Go.RowKit
variable [Globals]
def plain:List AV→Bool
 | []=>true
 | .pv _ :: l=>plain l
 | .fn _ [] :: l=>plain l
 |_ :: _=>false
end Go.Abs
