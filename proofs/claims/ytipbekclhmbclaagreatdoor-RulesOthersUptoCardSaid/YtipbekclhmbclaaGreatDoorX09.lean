/- YtipbekclhmbclaaGreatDoorX09: walks and contracts. -/
import Derived.Test.YtipbekclhmbclaaGreatDoorX08

set_option linter.unusedVariables false
set_option linter.unusedSimpArgs false
set_option linter.unusedSectionVars false

namespace Go.Abs
open Go.Proofs
set_option maxRecDepth 10000
def runB(s:Sco)(sc:List Scene)(v:Vw)(a b c d:Nat):AObj:=.box ((cSco s++(roL 2 cSce sc::cVw v)).map .pv ++ [.own a,.own b,.own c,.own d])
def runIn(s:Sco)(sc:List Scene)(v:Vw)(o:Out):List (Nat×AObj):=[(900000,runB s sc v 900001 900002 900003 900004),(900001,rowL 10 cWrite o.writes),(900002,rowL 10 cWrite o.modes),(900003,rowL 1 cstr o.ran),(900004,rowL 1 cstr o.notes)]
def runW(s:Sco)(sc:List Scene)(v:Vw)(o:Out)(w:List Write):List (Nat×AObj):=[(900000,runB s sc v 1 900002 900003 900004),(1,rowL 10 cWrite w),(900001,.gone),(900002,rowL 10 cWrite o.modes),(900003,rowL 1 cstr o.ran),(900004,rowL 1 cstr o.notes)]
def runM(s:Sco)(sc:List Scene)(v:Vw)(o:Out)(w:List Write):List (Nat×AObj):=[(900000,runB s sc v 900001 1 900003 900004),(1,rowL 10 cWrite w),(900001,rowL 10 cWrite o.writes),(900002,.gone),(900003,rowL 1 cstr o.ran),(900004,rowL 1 cstr o.notes)]
def runN(s:Sco)(sc:List Scene)(v:Vw)(o:Out)(w:List ByteArray):List (Nat×AObj):=[(900000,runB s sc v 900001 900002 900003 1),(1,rowL 1 cstr w),(900001,rowL 10 cWrite o.writes),(900002,rowL 10 cWrite o.modes),(900003,rowL 1 cstr o.ran),(900004,.gone)]
def cOri(c:Cause)(i:Int):List PV:=cCause c ++ [vint i]
theorem Z8k(s:Sco)(sc:List Scene)(v:Vw)(o:Out)(q:Key)(u:Val)(c:Cause)(i:Int)(hl:o.writes.length<=1048576) :
  AC Tryz.prog 286 [.ptr 900000 0,.pv (.agg (cKey q)),.pv (.agg (cVal u)),.pv (.agg (cOri c i))] (runIn s sc v o) (.pv (.tup [])) (runW s sc v o (o.writes ++ [⟨q,u,c,i⟩])):=by
 refine AC.of_awp_gen (T:=T) T_ok hm Tryz.call286 Tryz.func286 rfl rfl rfl rfl rfl rfl ?_
 conv=>whnf
 repeat(any_goals((first|refine QI ?_|refine QK ?_)<;>conv=>whnf))
 refine⟨rfl,[(1,22)],?_⟩
 conv=>whnf
 (repeat'(first|exact QC|refine qa ?_ ?_))
 all_goals first
  |(intro j hj;exact PSubs.rfl)
  |(simp;done)
  |skip
 all_goals
  refine Z05 (fun i hi=>by simp only[qK hi];exact PSubs.rfl) (by simp only[qJ (qM _),Nat.sub_self];exact PSubs.rfl)
theorem Zm7(s:Sco)(sc:List Scene)(v:Vw)(o:Out)(x:Stp)(c:Cause)(i:Int)(hl:o.modes.length<=1048576) :
  AC Tryz.prog 307 [.pv (.agg (cStp x)),.ptr 900000 0,.pv (.agg (cOri c i))] (runIn s sc v o) (.pv (.tup [])) (runM s sc v o (o.modes ++ [⟨noKey,⟨4,0,x.name⟩,c,i⟩])):=by
 refine AC.of_awp_gen (T:=T) T_ok hm Tryz.call307 Tryz.func307 rfl rfl rfl rfl rfl rfl ?_
 conv=>whnf
 repeat(any_goals((first|refine QI ?_|refine QK ?_)<;>conv=>whnf))
 refine⟨rfl,[(1,22)],?_⟩
 conv=>whnf
 (repeat'(first|exact QC|refine qa ?_ ?_))
 all_goals first
  |(intro j hj;exact PSubs.rfl)
  |(simp;done)
  |skip
 all_goals
  refine Z05 (fun i hi=>by simp only[qK hi];exact PSubs.rfl) (by simp only[qJ (qM _),Nat.sub_self];exact PSubs.rfl)
theorem Zm3(s:Sco)(sc:List Scene)(v:Vw)(o:Out)(x:Stp)(c:Cause)(i:Int)(hl:o.notes.length<=1048576)(hn:c.name.size<=1048576)(hx:x.name.size<=1048576) :
  AC Tryz.prog 308 [.pv (.agg (cStp x)),.ptr 900000 0,.pv (.agg (cOri c i))] (runIn s sc v o) (.pv (.tup [])) (runN s sc v o (o.notes ++ [c.name++(⟨#[58,32]⟩:ByteArray)++x.name])):=by
 refine AC.of_awp_gen (T:=T) T_ok hm Tryz.call308 Tryz.func308 rfl rfl rfl rfl rfl rfl ?_
 conv=>whnf
 have s1:((c.name.size+(⟨#[58,32]⟩:ByteArray).size:Nat):Int)<=IntKind.i64.max:=by
  show((c.name.size+2:Nat):Int)<=9223372036854775807;omega
 have s2:(((c.name++(⟨#[58,32]⟩:ByteArray)).size+x.name.size:Nat):Int)<=IntKind.i64.max:=by
  rw[ByteArray.size_append];show((c.name.size+2+x.name.size:Nat):Int)<=9223372036854775807;omega
 repeat(any_goals((first|refine QI ?_|refine QK ?_)<;>conv=>whnf))
 refine⟨rfl,[(1,21)],?_⟩
 conv=>whnf
 (repeat'(first|exact QC|refine qa ?_ ?_))
 all_goals first
  |(intro j hj;exact PSubs.rfl)
  |(simp;done)
  |skip
 all_goals
  refine Z05 (fun i hi=>by simp only[qK hi];exact PSubs.rfl) (by simp only[qJ (qM _),Nat.sub_self];exact PSubs.rfl)
theorem Zm5(s:Sco)(sc:List Scene)(v:Vw)(o:Out)(x:Stp)(c:Cause)(i:Int)(hs:smallS s)(hv:smallV2 v)(hl:o.writes.length<=1048576) :
  AC Tryz.prog 287 [.pv (.agg (cStp x)),.ptr 900000 0,.pv (.agg (cOri c i))] (runIn s sc v o) (.pv (.tup [])) (runW s sc v o (o.writes++setW s v x c i)):=by
 have hen:((findA s.home x.key).getD noAttr).enum.length<=1048576:=Z60 hs.1;refine AC.of_awp_gen (T:=T) T_ok hm Tryz.call287 Tryz.func287 rfl rfl rfl rfl rfl rfl ?_
 conv=>whnf
 repeat(any_goals((first|refine⟨QT ?_,QF ?_⟩<;>intro h<;>(try simp only[Q0,Q1,Q2,Q3,Q4,Q5,Q6,Q7,Q8,reduceCtorEq]at h)|refine .inl ⟨_,Z4z s.home x.key hs.1,?_⟩|refine .inl ⟨_,Z85 v x.expr hv,?_⟩|refine .inl ⟨_,Z41 ((findA s.home x.key).getD noAttr) (evlE v x.expr).1 hen,?_⟩|refine .inl ⟨_,Z56 ((findA s.home x.key).getD noAttr) (limX s v x) hen,?_⟩|refine .inr (.inr (.inr (.inr ⟨[(900000,900000),(900001,900001),(900002,900002),(900003,900003),(900004,900004)],[(1,700)],_,_,_,Z8k s sc v o x.key (limX s v x) c i hl,rfl,?_⟩)))|refine QK ?_)<;>conv=>whnf))
 ·rw[set_no (fun y=>by rw[y.1]at h;cases h),List.append_nil];refine⟨rfl,[(1,900001)],?_⟩
  conv=>whnf
  (repeat'(first|exact QC|refine qa ?_ ?_))
  all_goals(intro j hj;exact PSubs.rfl)
 ·rw[set_no (fun y=>by rw[y.2.1]at h;cases h),List.append_nil];refine⟨rfl,[(1,900001)],?_⟩
  conv=>whnf
  (repeat'(first|exact QC|refine qa ?_ ?_))
  all_goals(intro j hj;exact PSubs.rfl)
 ·rw[Zhr (by assumption) h];refine⟨rfl,[(1,700)],?_⟩
  conv=>whnf
  (repeat'(first|exact QC|refine qa ?_ ?_))
  all_goals(intro j hj;exact PSubs.rfl)
 rw[set_no (fun y=>h y.2.2),List.append_nil];refine⟨rfl,[(1,900001)],?_⟩
 conv=>whnf
 (repeat'(first|exact QC|refine qa ?_ ?_))
 all_goals(intro j hj;exact PSubs.rfl)
def runL(s:Sco)(sc:List Scene)(v:Vw)(o:Out)(w:List Write):List (Nat×AObj):=[(900000,runB s sc v 501 900002 900003 900004),(501,rowL 10 cWrite w),(900001,.gone),(900002,rowL 10 cWrite o.modes),(900003,rowL 1 cstr o.ran),(900004,rowL 1 cstr o.notes)]
set_option maxHeartbeats 1000000 in
theorem Zm6(s:Sco)(sc:List Scene)(v:Vw)(o:Out)(x:Stp)(c:Cause)(i:Int)(hs:smallS s)(hsc:smallL sc)(hsi:∀i,i<sc.length->smallL (sc.getD i default).items)(hl:o.writes.length+(sceW s sc x c i).length<=1048576) :
  AC Tryz.prog 300 [.pv (.agg (cStp x)),.ptr 900000 0,.pv (.agg (cOri c i))] (runIn s sc v o) (.pv (.tup [])) (runW s sc v o (o.writes++sceW s sc x c i)):=by
 have hit:=Zea (n:=x.name) hsi;have hit2:(findS sc x.name).items.length<=1048576:=hit;have hsi2:∀i,smallL (sc.getD i default).items:=fun i=>by
  by_cases h:i<sc.length
  ·exact hsi i h
  have:sc.getD i default=default:=by simp[List.getD,Nat.le_of_not_lt h]
  rw[this];exact qe _
 refine AC.of_awp_gen (T:=T) T_ok hm Tryz.call300 Tryz.func300 rfl rfl rfl rfl rfl rfl ?_
 conv=>whnf
 repeat(any_goals((first|refine⟨QT ?_,QF ?_⟩<;>intro h<;>(try simp only[Q0,Q1,Q2,Q3,Q4,Q5,Q6,Q7,Q8,reduceCtorEq]at h)|refine .inl ⟨_,Zma sc x.name hsc hsi2,?_⟩|refine .inl ⟨_,Zm9 s.home (findS sc x.name) hs.1 hit,?_⟩|refine .inl ⟨_,Zm8 (findS sc x.name) c (by omega),?_⟩|refine QK ?_)<;>conv=>whnf))
 ·rw[sce_no (fun y=>h y.1),List.append_nil];refine⟨rfl,[(1,900001)],?_⟩
  conv=>whnf
  (repeat'(first|exact QC|refine qa ?_ ?_))
  all_goals(intro j hj;exact PSubs.rfl)
 ·rw[sce_no (fun y=>h y.2),List.append_nil];refine⟨rfl,[(1,900001)],?_⟩
  conv=>whnf
  (repeat'(first|exact QC|refine qa ?_ ?_))
  all_goals(intro j hj;exact PSubs.rfl)
 have e:sceW s sc x c i=(applyS (findS sc x.name) c (findS sc x.name).items.length).map (atW i):=qK ⟨by assumption,h⟩;rw[e]at hl ⊢;have hca:∀k,k<(applyS (findS sc x.name) c (findS sc x.name).items.length).length->((applyS (findS sc x.name) c (findS sc x.name).items.length).getD k default).cause=c:=fun k hk=>by
  rw[Z03 _ _ hk];simp[applyS]
 generalize applyS (findS sc x.name) c (findS sc x.name).items.length=l at *;rw[List.length_map]at hl;refine loop_k (ι:=Nat) [1,5,36,37] [5] (fun k=>k<=l.length) (fun k=>l.length-k) 0 (fun k=>[(38,.pv (vint k))]) (fun k=>runL s sc v o (o.writes++(l.take k).map (atW i))) [(501,900001)] (qe _) ?_ (fun k hk=>?_)
 ·rw[show o.writes++(l.take 0).map (atW i)=o.writes from by simp]
  conv=>whnf
  (repeat'(first|exact QC|refine qa ?_ ?_))
  all_goals(intro j hj;exact PSubs.rfl)
 have hml:((l.take k).map (atW i)).length=k:=by rw[List.length_map,qq];omega
 have hal:(o.writes++(l.take k).map (atW i)).length=o.writes.length+k:=by rw[ql,hml]
 conv=>whnf
 refine⟨fun h=>?_,fun h=>?_⟩<;>(try simp only[Q0,Q1,Q2,Q3,Q4,Q5,Q6,Q7,Q8,reduceCtorEq]at h)<;>(conv=>whnf)
 ·have hk2:k<l.length:=by omega
  have cw:=Z8k s sc v { o with writes:=o.writes++(l.take k).map (atW i) } (l.getD k default).key (l.getD k default).value c i (by show _<=_;rw[hal];omega);have ew:(⟨(l.getD k default).key,(l.getD k default).value,c,i⟩:Write)=atW i (l.getD k default):=by
   unfold atW;rw[<-hca k hk2]
  rw[ew]at cw;have hsn:o.writes++(l.take (k+1)).map (atW i)=(o.writes++(l.take k).map (atW i)) ++ [atW i (l.getD k default)]:=by
   rw[Z09 hk2,List.map_append,List.append_assoc];rfl
  repeat(any_goals((first|refine .inr (.inr (.inr (.inr ⟨[(900000,900000),(900001,501),(900002,900002),(900003,900003),(900004,900004)],[(1,701)],_,_,_,cw,rfl,?_⟩)))|refine QI ?_|refine .inl ⟨wrap64 (by omega),?_⟩)<;>conv=>whnf))
  refine⟨k+1,[(501,701)],by omega,by omega,?_⟩;rw[hsn]
  conv=>whnf
  (repeat'(first|exact QC|refine qa ?_ ?_))
  all_goals(intro j hj;exact PSubs.rfl)
 have e2:k=l.length:=by omega
 subst e2;rw[List.take_length];refine⟨rfl,[(1,501)],?_⟩
 conv=>whnf
 (repeat'(first|exact QC|refine qa ?_ ?_))
 all_goals(intro j hj;exact PSubs.rfl)
theorem Z5x{s:Sco}{l:List Rul}(h1:scoE s=0)(h2:(rulesE s l).2=0):runE s l=0:=by
 unfold runE;rw[qJ (by rw[h1];decide),h2]
structure GoodW (s:Sco) (w:Write):Prop where
 found:(findA s.home w.key).isSome=true
 writ:((findA s.home w.key).getD noAttr).writable=true
 fits:fitsE ((findA s.home w.key).getD noAttr) w.value=0
structure CluOf (s:Sco) (x:Stp) (k:Clu):Prop where
 part:partO s.home x.key.dev x.key.cluster=some k
 home:homE s.home=0
 mem:k∈s.home.clusters
 name:k.name=x.key.cluster
 chk:Checked k
 cmd:cmdAt k.commands x.name<k.commands.length
theorem clu_of{s:Sco}{x:Stp}(hx:x.kind=2)(h:doE s x=0):∃k,CluOf s x k:=by
 rw[doE,qJ (by omega),qK hx,comE]at h;cases hc:comO s x with
 |none=>rw[hc]at h;cases h
 |some d=>
  unfold comO at hc;cases hp:partO s.home x.key.dev x.key.cluster with
  |none=>rw[hp]at hc;cases hc
  |some c=>
   rw[hp]at hc;dsimp only at hc
   split at hc
   ·rename_i hlt;have hp0:=hp;unfold partO at hp
    split at hp
    ·rename_i hb;have hh:homE s.home=0:=by
      have:=hb.1;unfold findB at this;simp only[qc,Q0]at this;exact this.1
     refine⟨c,hp0,hh,List.mem_of_find?_eq_some hp,?_,Z5b (clu_ok hh (List.mem_of_find?_eq_some hp)),hlt⟩;have:=List.find?_some hp;simpa using this
    cases hp
   cases hc
theorem Zm2(H:Hom)(n:ByteArray)(k:Clu)(hH:smallH H)(hk:firstC H.clusters n=some k):AC Tryz.prog 290 [.pv (.agg (cHom H)),.pv (vstr n)] [] (.pv (.agg (cClu k))) []:=by
 have hl:H.clusters.length<=1048576:=hH.1.1;refine AC.of_awp (T:=T) T_ok hm Tryz.call290 Tryz.func290 rfl rfl rfl ?_
 conv=>whnf
 refine loop_k (ι:=Nat) [1,4,8,9] [4] (fun q=>q<=H.clusters.length∧(∀j,j<q->decide ((H.clusters.getD j default).name=n)=false)) (fun q=>H.clusters.length-q) 0 (fun q=>[(10,.pv (vint q))]) (fun _=>[]) [] ⟨qe _,fun j h=>absurd h (by omega)⟩ ?_ (fun q hk=>?_)
 ·exact QD
 obtain⟨hkn,hinv⟩:=hk
 conv=>whnf
 repeat(any_goals((first|refine⟨QT ?_,QF ?_⟩<;>intro h<;>(try simp only[Q0,Q1,Q2,Q3,Q4,Q5,Q6,Q7,Q8,reduceCtorEq]at h)|refine QI ?_|refine .inl ⟨wrap64 (by omega),?_⟩)<;>conv=>whnf))
 ·have e:firstC H.clusters n=some (H.clusters.getD q default):=by
   unfold firstC;rw[List.find?_eq_some_iff_getElem];refine⟨by rw[Q0];exact h,q,by omega,by rw[Z03 _ _ (by omega)],fun j hj=>?_⟩;have:=hinv j hj;rw[Z03 _ _ (by omega)]at this;rw[this];rfl
  rw[hk]at e;cases e;exact .rfl
 ·refine⟨q+1,[],⟨by omega,?_⟩,by first|omega|(dsimp only;omega),?_⟩;rotate_left
  ·exact QD
  intro j hj
  by_cases e:j=q
  ·subst e;first|exact h|simpa[-List.getD_eq_getElem?_getD]using h|simp_all[-List.getD_eq_getElem?_getD]
  exact hinv j (by omega)
 exfalso;unfold firstC at hk;have h1:=List.mem_of_find?_eq_some hk;have h2:=List.find?_some hk;obtain⟨j,hj,e⟩:=qp h1;have:=hinv j (by omega);rw[Z03 _ _ hj,e]at this;simp only[Q0]at h2;rw[h2]at this;simp at this
theorem Zoq{s:Sco}{x:Stp}{k:Clu}(h:CluOf s x k):firstC s.home.clusters x.key.cluster=some k:=by
 have:=h.part;unfold partO at this
 split at this
 ·exact this
 cases this
theorem Znp{v:Vw}{x:Stp}{k:Clu}(h:applyE k x.name (parX v x k) (bfrL v.items x.key.dev k k.attrs.length)=0):(aftL v x k).length=k.attrs.length:=by
 unfold aftL applyL;rw[qK h,Z8y,Z1b]
theorem Znq{v:Vw}{x:Stp}{k:Clu}(h:¬applyE k x.name (parX v x k) (bfrL v.items x.key.dev k k.attrs.length)=0):(aftL v x k).length=0:=by
 unfold aftL applyL;rw[qJ h];rfl
set_option maxHeartbeats 4000000 in
theorem Zm1(s:Sco)(sc:List Scene)(v:Vw)(o:Out)(x:Stp)(c:Cause)(i:Int)(k:Clu)(hs:smallS s)(hv:smallV2 v)(hk:CluOf s x k)(hl:o.writes.length+k.attrs.length<=1048576) :
  AC Tryz.prog 289 [.pv (.agg (cStp x)),.ptr 900000 0,.pv (.agg (cOri c i))] (runIn s sc v o) (.pv (.tup [])) (runW s sc v o (o.writes++callW s v x c i)):=by
 have ek:cluX s x=k:=by unfold cluX;rw[hk.part];rfl
 have hsk:smallK k:=by rw[<-ek];exact Zb7 hs.1
 have e0:callW s v x c i=chgTo v x k c i (aftL v x k).length:=by unfold callW chgTo;rw[ek]
 rw[e0];have hp:parX v x k=if(cmdOf k.commands x.name).param.kind≠0 then(evlE v x.expr).1 else noVal:=rfl
 have cD:=Zm2 s.home x.key.cluster k hs.1 (Zoq hk);have cC:=Z84 k x.name hsk;rw[qB hk.cmd]at cC;have hfull:=Znp (v:=v) (x:=x) (k:=k);have hnone:=Znq (v:=v) (x:=x) (k:=k);have cA0:=Zj7 k x.name (parX v x k) (bfrL v.items x.key.dev k k.attrs.length) hsk (by show _<=_;rw[Z1b];exact hsk.1);change AC Tryz.prog _ _ _ (.pv (.tup [roL 3 cVal (aftL v x k),_])) _ at cA0;have hcw:∀j,chgW v x k c i j=if(aftL v x k).getD j default≠(bfrL v.items x.key.dev k k.attrs.length).getD j default then [⟨keyX x.key.dev k j,(aftL v x k).getD j default,c,i⟩]else []:=fun j=>rfl
 generalize applyE k x.name (parX v x k) (bfrL v.items x.key.dev k k.attrs.length)=ae at *;generalize hL:aftL v x k=L at *;clear hk ek;generalize hn:k.attrs.length=n at *;have hna:n<=1048576:=by omega
 have hdz:decide (0<n)=true↔0<n:=decide_eq_true_iff;refine AC.of_awp_gen (T:=T) T_ok hm Tryz.call289 Tryz.func289 rfl rfl rfl rfl rfl rfl ?_
 conv=>whnf
 repeat(any_goals((first|refine .inl ⟨_,cD,?_⟩|refine QK ?_)<;>conv=>whnf))
 refine loop_k (ι:=Bool×Nat) [1,3,5,6,31,32] [3,5,6,900000,900001,900002,900003,900004] (fun y=>y.2<=n∧(y.1=true↔y.2<n)) (fun y=>n-y.2) (decide (0<n),0) (fun y=>match y.1 with
   |true=>[(7,.own 500),(33,.pv (vint y.2))]
   |false=>[(7,.pv (roL 3 cVal (bfrL v.items x.key.dev k n))),(33,.pv (vint y.2))])
  (fun y=>match y.1 with
   |true=>[(500,rowL 3 cVal (bfrL v.items x.key.dev k y.2))]
   |false=>[]) [] ⟨qe _,hdz⟩ ?_ (fun y hk=>?_)
 ·by_cases hz:0<n
  ·rw[show decide (0<n)=true from decide_eq_true hz];dsimp only;(repeat'(first|exact QC|refine And.intro ?_ ?_))
   all_goals(intro j hj;exact PSubs.rfl)
  ·rw[show decide (0<n)=false from decide_eq_false hz];dsimp only;(repeat'(first|exact QC|refine And.intro ?_ ?_))
   all_goals first
    |(intro j hj;exact PSubs.rfl)
    |exact PSub.nilL (List.eq_nil_of_length_eq_zero (by rw[Z1b];omega))
 obtain⟨b,q⟩:=y;obtain⟨hqn,hb⟩:=hk;dsimp only at hqn hb;cases b with
 |true=>
  have hq:q<n:=hb.1 rfl;have hbl:=Z1b v.items x.key.dev k q;have hbs:=Z96 v.items x.key.dev k q;rw[Z95]at hbs;have hen:(k.attrs.getD q default).enum.length<=1048576:=hsk.2.1 q;dsimp only
  conv=>whnf
  refine⟨fun h=>?_,fun h=>absurd (of_decide_eq_false h) (by omega)⟩
  conv=>whnf
  repeat(any_goals((first|refine⟨QT ?_,QF ?_⟩<;>intro h<;>(try simp only[Q0,Q1,Q2,Q3,Q4,Q5,Q6,Q7,Q8,reduceCtorEq]at h)|refine .inl ⟨_,Zjh v.items (keyX x.key.dev k q) hv.1,?_⟩|refine .inl ⟨_,Znl (k.attrs.getD q default) hen,?_⟩|refine QI ?_|refine QK ?_|refine .inl ⟨wrap64 (by omega),?_⟩)<;>conv=>whnf))
  all_goals
   first|rw[qJ h]at hbs|rw[qK h]at hbs
   by_cases hlast:q+1<n
   ·refine⟨(true,q+1),[(500,63)],⟨by dsimp only;omega,by simp;omega⟩,by dsimp only;omega,?_⟩;dsimp only;rw[hbs];(repeat'(first|exact QC|refine And.intro ?_ ?_))
    all_goals first
     |(intro j hj;exact PSubs.rfl)
     |(simp;done)
     |skip
    all_goals
     refine Z05 (fun i hi=>by simp only[qK hi];exact PSubs.rfl) (by simp only[qJ (qM _),Nat.sub_self];exact PSubs.rfl)
   ·have hn1:n=q+1:=by omega
    have hall:roL 3 cVal (bfrL v.items x.key.dev k n)=roL 3 cVal (bfrL v.items x.key.dev k (q+1)):=by rw[hn1]
    refine⟨(false,q+1),[],⟨by dsimp only;omega,by simp;omega⟩,by dsimp only;omega,?_⟩;dsimp only;rw[hall,hbs];(repeat'(first|exact QC|refine And.intro ?_ ?_))
    all_goals first
     |(intro j hj;exact PSubs.rfl)
     |skip
    all_goals
     conv=>whnf
     refine PSub.ro (by simp) (fun i hi=>?_);revert i;rw[show(bfrL v.items x.key.dev k q).length+1=(bfrL v.items x.key.dev k q ++ [_]).length from by simp];refine Z05 (fun i hi=>by simp only[qK hi];exact PSubs.rfl) (by simp only[qJ (qM _),Nat.sub_self];exact PSubs.rfl)
 |false=>
  have hq:q=n:=by
   have:¬q<n:=fun h=>by have:=hb.2 h;cases this
   omega
  subst hq;dsimp only
  conv=>whnf
  refine⟨fun h=>absurd (qC h) (by omega),fun h=>?_⟩
  conv=>whnf
  repeat(any_goals((first|refine⟨QT ?_,QF ?_⟩<;>intro h<;>(try simp only[Q0,Q1,Q2,Q3,Q4,Q5,Q6,Q7,Q8,reduceCtorEq]at h)|refine .inl ⟨_,cC,?_⟩|refine .inl ⟨_,Z85 v x.expr hv,?_⟩|refine QK ?_)<;>conv=>whnf))
  case' refine_2.false.refine_1.refine_1=>rw[hp,qK h]at cA0
  case' refine_2.false.refine_1.refine_2=>rw[hp,qJ (fun y=>y h)]at cA0
  all_goals clear h
  all_goals
   repeat(any_goals((first|refine⟨QT ?_,QF ?_⟩<;>intro h<;>(try simp only[Q0,Q1,Q2,Q3,Q4,Q5,Q6,Q7,Q8,reduceCtorEq]at h)|refine .inl ⟨_,cA0,?_⟩)<;>conv=>whnf))
  case' refine_2.false.refine_1.refine_2.refine_1|refine_2.false.refine_1.refine_1.refine_1=>
   rw[hnone h,show chgTo v x k c i 0 = []from rfl,List.append_nil];refine⟨rfl,[(1,900001)],?_⟩
   conv=>whnf
   (repeat'(first|exact QC|refine qa ?_ ?_))
   all_goals(intro j hj;exact PSubs.rfl)
  all_goals
   have hLn:L.length=q:=hfull (by assumption);rw[hLn];refine loop_k (ι:=Nat) [1,3,5,6,7,16,104,105] [3,5,6] (fun j=>j<=q) (fun j=>q-j) 0 (fun j=>[(106,.pv (vint j))]) (fun j=>runL s sc v o (o.writes++chgTo v x k c i j)) [(501,900001)] (qe _) ?_ (fun j hj=>?_)
   ·rw[show o.writes++chgTo v x k c i 0=o.writes from by simp[chgTo]]
    conv=>whnf
    (repeat'(first|exact QC|refine qa ?_ ?_))
    all_goals(intro j hj;exact PSubs.rfl)
   have hcl:=Z5c v x k c i j;have hal:(o.writes++chgTo v x k c i j).length=o.writes.length+(chgTo v x k c i j).length:=ql;have hcs:=Z6k v x k c i j;rw[hcw]at hcs;have hbl:=Z1b v.items x.key.dev k q;have cw:=Z8k s sc v { o with writes:=o.writes++chgTo v x k c i j } (keyX x.key.dev k j) (L.getD j default) c i (by show _<=_;rw[hal];omega)
   conv=>whnf
   repeat(any_goals((first|refine⟨QT ?_,QF ?_⟩<;>intro h<;>(try simp only[Q0,Q1,Q2,Q3,Q4,Q5,Q6,Q7,Q8,reduceCtorEq]at h)|refine .inr (.inr (.inr (.inr ⟨[(900000,900000),(900001,501),(900002,900002),(900003,900003),(900004,900004)],[(1,701)],_,_,_,cw,rfl,?_⟩)))|refine QI ?_|refine QK ?_|refine .inl ⟨wrap64 (by omega),?_⟩)<;>conv=>whnf))
   ·have e:=of_decide_eq_false ((Z2t _ _).symm.trans h);rw[qK e]at hcs;refine⟨j+1,[(501,701)],by omega,by omega,?_⟩;rw[hcs,<-List.append_assoc]
    conv=>whnf
    (repeat'(first|exact QC|refine qa ?_ ?_))
    all_goals(intro j hj;exact PSubs.rfl)
   ·have e:=qC ((Z2t _ _).symm.trans h);rw[qJ (fun y=>y e),List.append_nil]at hcs;refine⟨j+1,[],by omega,by omega,?_⟩;rw[hcs]
    conv=>whnf
    (repeat'(first|exact QC|refine qa ?_ ?_))
    all_goals(intro j hj;exact PSubs.rfl)
   ·have e2:j=q:=by omega
    rw[e2];refine⟨rfl,[(1,501)],?_⟩
    conv=>whnf
    (repeat'(first|exact QC|refine qa ?_ ?_))
    all_goals(intro j hj;exact PSubs.rfl)
theorem Zph(v:Vw)(e:Ex):valE (evlE v e).1=0:=by
 have hok:exE e=0->okN e:=fun h=>((Z4a e).1 h).1
 unfold evlE
 by_cases h:exE e=0
 ·rw[qJ (fun x=>x h)];unfold fndV;split
  ·rfl
  exact evR_ok v (hok h)
 rw[qK h];rfl
theorem Zwz(v:Vw)(e:Ex):truE v e=((evlE v e).2&&(decide ((evlE v e).1.kind=1)&&decide ((evlE v e).1.n=1))):=by
 unfold truE;have h:=Zph v e;generalize (evlE v e).1=x at *;congr 1;rw[qt];simp only[Q0,qc];constructor
 ·rintro rfl;exact⟨rfl,rfl⟩
 rintro ⟨h1,h2⟩
 rcases Z67 h h1 with e|e
 ·exact e
 rw[e]at h2;cases h2
theorem Zjm(v:Vw)(e:Ex)(hv:smallV2 v):AC Tryz.prog 27 [.pv (.agg (cVw v)),.pv (.agg (cEx e))] [] (.pv (vbool (truE v e))) []:=by
 rw[Zwz];refine AC.of_awp (T:=T) T_ok hm Tryz.call27 Tryz.func27 rfl rfl rfl ?_
 conv=>whnf
 repeat(any_goals((first|refine⟨QT ?_,QF ?_⟩<;>intro h<;>(try simp only[Q0,Q1,Q2,Q3,Q4,Q5,Q6,Q7,Q8,reduceCtorEq]at h)|refine .inl ⟨_,Z85 v e hv,?_⟩)<;>conv=>whnf))
 all_goals first
  |(refine PSub.sb ?_;simp_all;done)
  |(refine PSub.lit_sb ?_;simp_all;done)
theorem Zbu(l:List ByteArray)(hl:l.length<=1048576):AC Tryz.prog 31 [.pv (roL 1 cstr l)] [] (.pv (roL 1 cstr (sortS l))) []:=by
 refine AC.of_awp (T:=T) T_ok hm Tryz.call31 Tryz.func31 rfl rfl rfl ?_
 conv=>whnf
 refine .inr (.inl ⟨_,_,_,Z8l l.length (fun i=>cstr (l.getD i default)) hl,?_⟩)
 conv=>whnf
 refine .inr (.inr (.inl ⟨_,_,Zmw l (by omega),?_⟩))
 conv=>whnf
 refine .inr (.inr (.inr (.inl ⟨_,_,_,Zmf (sortedS l) (by rw[Z28];omega),?_⟩)))
 conv=>whnf
 rw[Z28,Zdm];exact .rfl
theorem Zd8(w:Write):∀(l:List Write) (b:Write),bestW b (l ++ [w])=if befW w (bestW b l)=true then w else bestW b l
 | [],_=>rfl
 |x::l,b=>by rw[List.cons_append,bestW,bestW,Zd8 w l]
def bwL(l:List Write)(k:Nat):Write:=bestW (l.getD 0 default) ((l.drop 1).take k)
theorem Zdb{l:List Write}{k:Nat}(h:1+k<l.length):bwL l (k+1)=if befW (l.getD (1+k) default) (bwL l k)=true then l.getD (1+k) default else bwL l k:=by
 unfold bwL;have e:(l.drop 1).getD k default=l.getD (1+k) default:=by simp[List.getD,Nat.add_comm]
 rw[Z09 (by rw[List.length_drop];omega),e];exact Zd8 _ _ _
theorem Zg5{l:List Write}{s:ByteArray}(h:0<l.length):modeT l s=(bwL l (l.length-1)).value.s:=by
 cases l with
 |nil=>simp at h
 |cons w l=>
  unfold modeT bwL;simp
theorem Z8j(o:Out)(s:ByteArray)(ho:smallL o.modes):AC Tryz.prog 14 [.pv (.agg (cOut o)),.pv (vstr s)] [] (.pv (vstr (modeT o.modes s))) []:=by
 have hl:o.modes.length<=1048576:=ho;refine AC.of_awp (T:=T) T_ok hm Tryz.call14 Tryz.func14 rfl rfl rfl ?_
 conv=>whnf
 repeat(any_goals((first|refine⟨QT ?_,QF ?_⟩<;>intro h<;>(try simp only[Q0,Q1,Q2,Q3,Q4,Q5,Q6,Q7,Q8,reduceCtorEq]at h)|refine QI ?_)<;>conv=>whnf))
 ·rw[List.eq_nil_of_length_eq_zero (l:=o.modes) (by omega)];exact .rfl
 rw[Zg5 (by omega)];generalize o.modes=l at *;refine loop_k (ι:=Nat) [19,20] [] (fun k=>k<=l.length-1) (fun k=>l.length-1-k) 0 (fun k=>[(5,.ptr 5 0),(21,.pv (vint k))]) (fun k=>[(5,.pbox (cWrite (bwL l k)))]) [] (qe _) ?_ (fun k hk=>?_)
 ·(repeat'(first|exact QC|refine qa ?_ ?_))
  all_goals exact PSubs.rfl
 conv=>whnf
 have hs:=Zdb (l:=l) (k:=k);refine⟨fun h=>?_,fun h=>?_⟩<;>(try simp only[Q0,Q1,Q2,Q3,Q4,Q5,Q6,Q7,Q8,reduceCtorEq]at h)<;>(conv=>whnf)
 ·have hk2:1+k<l.length:=by omega
  replace hs:=hs hk2
  repeat(any_goals((first|refine⟨QT ?_,QF ?_⟩<;>intro h<;>(try simp only[Q0,Q1,Q2,Q3,Q4,Q5,Q6,Q7,Q8,reduceCtorEq]at h)|refine .inl ⟨_,Z8h (l.getD (1+k) default) (bwL l k),?_⟩|refine QI ?_|refine .inl ⟨wrap64 (by omega),?_⟩)<;>conv=>whnf))
  all_goals
   refine⟨k+1,[],by omega,by omega,?_⟩
   first|rw[qK h]at hs|rw[qJ (by rw[h];exact Bool.false_ne_true)]at hs
   rw[hs];(repeat'(first|exact QC|refine qa ?_ ?_))
   all_goals first
    |exact PSubs.rfl
    |skip
 have e:k=l.length-1:=by omega
 subst e
 conv=>whnf
 exact .rfl
def actI(x:Stp):List PV:=[.ifc (if x.kind=1 then 135 else if x.kind=2 then 136 else if x.kind=3 then 137 else if x.kind=4 then 138 else 139) (.agg (cStp x))]
theorem act_1{x:Stp}(h:x.kind=1):actI x = [.ifc 135 (.agg (cStp x))]:=by unfold actI;rw[qK h]
theorem act_2{x:Stp}(h:x.kind=2):actI x = [.ifc 136 (.agg (cStp x))]:=by unfold actI;rw[qJ (by omega),qK h]
theorem act_3{x:Stp}(h:x.kind=3):actI x = [.ifc 137 (.agg (cStp x))]:=by unfold actI;rw[qJ (by omega),qJ (by omega),qK h]
theorem act_4{x:Stp}(h:x.kind=4):actI x = [.ifc 138 (.agg (cStp x))]:=by unfold actI;rw[qJ (by omega),qJ (by omega),qJ (by omega),qK h]
theorem act_5{x:Stp}(h1:¬x.kind=1)(h2:¬x.kind=2)(h3:¬x.kind=3)(h4:¬x.kind=4):actI x = [.ifc 139 (.agg (cStp x))]:=by unfold actI;rw[qJ h1,qJ h2,qJ h3,qJ h4]
set_option maxHeartbeats 1000000 in
theorem Zm0(l:List Stp)(hl:smallL l):AC Tryz.prog 28 [.pv (roL 16 cStp l)] [] (.pv (roL 1 actI l)) []:=by
 have hl:l.length<=1048576:=hl;refine AC.of_awp (T:=T) T_ok hm Tryz.call28 Tryz.func28 rfl rfl rfl ?_
 conv=>whnf
 refine loop_k (ι:=Nat) [6,7] [] (fun k=>k<=l.length∧True) (fun k=>l.length-k) 0 (fun k=>[(3,.own 500),(8,.pv (vint k))]) (fun k=>[(500,rowL 1 actI (l.take k))]) [] ⟨qe _,trivial⟩ ?_ (fun k hk=>?_)
 ·(repeat'(first|exact QC|refine qa ?_ ?_));all_goals((intro i hi;exact absurd hi (by simp)))
 obtain⟨hkn,hinv⟩:=hk
 conv=>whnf
 refine⟨fun h=>?_,fun h=>?_⟩<;>(try simp only[Q0,Q1,Q2,Q3,Q4,Q5,Q6,Q7,Q8,reduceCtorEq]at h)<;>(conv=>whnf)
 ·have hk:k<l.length:=by omega
  have hsn:=Z09 (l:=l) hk;have hlen:(l.take k).length=k:=by rw[qq];omega
  repeat(any_goals((first|refine⟨QT ?_,QF ?_⟩<;>intro h<;>(try simp only[Q0,Q1,Q2,Q3,Q4,Q5,Q6,Q7,Q8,reduceCtorEq]at h)|refine QI ?_|refine .inl ⟨wrap64 (by omega),?_⟩)<;>conv=>whnf))
  ·refine⟨k+1,[(500,27)],⟨by omega,trivial⟩,by omega,?_⟩;have ha:=(act_1 h);rw[hsn];(repeat'(first|exact QC|refine qa ?_ ?_))
   all_goals first
    |(simp;done)
    |skip
   all_goals
    refine Z05 (fun i hi=>by simp only[qK hi];exact PSubs.rfl) ?_;simp only[qJ (qM _),Nat.sub_self];rw[ha];exact PSubs.rfl
  ·refine⟨k+1,[(500,35)],⟨by omega,trivial⟩,by omega,?_⟩;have ha:=(act_2 h);rw[hsn];(repeat'(first|exact QC|refine qa ?_ ?_))
   all_goals first
    |(simp;done)
    |skip
   all_goals
    refine Z05 (fun i hi=>by simp only[qK hi];exact PSubs.rfl) ?_;simp only[qJ (qM _),Nat.sub_self];rw[ha];exact PSubs.rfl
  ·refine⟨k+1,[(500,43)],⟨by omega,trivial⟩,by omega,?_⟩;have ha:=(act_3 h);rw[hsn];(repeat'(first|exact QC|refine qa ?_ ?_))
   all_goals first
    |(simp;done)
    |skip
   all_goals
    refine Z05 (fun i hi=>by simp only[qK hi];exact PSubs.rfl) ?_;simp only[qJ (qM _),Nat.sub_self];rw[ha];exact PSubs.rfl
  ·refine⟨k+1,[(500,51)],⟨by omega,trivial⟩,by omega,?_⟩;have ha:=(act_4 h);rw[hsn];(repeat'(first|exact QC|refine qa ?_ ?_))
   all_goals first
    |(simp;done)
    |skip
   all_goals
    refine Z05 (fun i hi=>by simp only[qK hi];exact PSubs.rfl) ?_;simp only[qJ (qM _),Nat.sub_self];rw[ha];exact PSubs.rfl
  refine⟨k+1,[(500,19)],⟨by omega,trivial⟩,by omega,?_⟩;have ha:=(act_5 (by assumption) (by assumption) (by assumption) h);rw[hsn];(repeat'(first|exact QC|refine qa ?_ ?_))
  all_goals first
   |(simp;done)
   |skip
  all_goals
   refine Z05 (fun i hi=>by simp only[qK hi];exact PSubs.rfl) ?_;simp only[qJ (qM _),Nat.sub_self];rw[ha];exact PSubs.rfl
 have e:k=l.length:=by omega
 subst e;rw[List.take_length];exact .rfl
theorem Zub(s:Sco)(v:Vw)(x:Stp)(c:Cause)(i:Int):(setW s v x c i).length<=1:=by
 unfold setW;split<;>simp
theorem Zhp(s:Sco)(sc:List Scene)(x:Stp)(c:Cause)(i:Int):(sceW s sc x c i).length<=256:=by
 unfold sceW;split
 ·rename_i h;have hc:=h.2;unfold checkS at hc
  split at hc
  ·contradiction
  split at hc
  ·cases hc
  split at hc
  ·cases hc
  rw[List.length_map];have:(applyS (findS sc x.name) c (findS sc x.name).items.length).length<=(findS sc x.name).items.length:=by simp[applyS]
  omega
 simp
theorem Zoi{s:Sco}{v:Vw}{x:Stp}{c:Cause}{i:Int}{k:Clu}(h:CluOf s x k):(callW s v x c i).length<=12:=by
 have ek:cluX s x=k:=by unfold cluX;rw[h.part];rfl
 have e:callW s v x c i=chgTo v x k c i (aftL v x k).length:=by unfold callW chgTo;rw[ek]
 rw[e];have h1:=Z5c v x k c i (aftL v x k).length;have h2:=Z8q v x k;have h3:=h.chk.attrs;omega
theorem Zij{s:Sco}{sc:List Scene}{v:Vw}{c:Cause}{x:Stp}{i:Int}(h:doE s x=0):(stpW s sc v c x i).length<=256:=by
 unfold stpW;split
 ·have:=Zub s v x c i;omega
 split
 ·obtain⟨k,hk⟩:=clu_of ‹_› h;have:=Zoi (v:=v) (c:=c) (i:=i) hk;omega
 split
 ·exact Zhp s sc x c i
 simp
theorem Zaw(s:Sco)(sc:List Scene)(v:Vw)(r:Rul)(n:Nat):rulW s sc v r (n+1)=rulW s sc v r n++stpW s sc v (cauR r) (r.steps.getD n default) n:=by
 unfold rulW;rw[List.range_succ,List.flatMap_append];simp
theorem Zau(r:Rul)(n:Nat):rulM r (n+1)=rulM r n++stpM (cauR r) (r.steps.getD n default) n:=by
 unfold rulM;rw[List.range_succ,List.flatMap_append];simp
theorem Zav(r:Rul)(n:Nat):rulN r (n+1)=rulN r n++stpN (cauR r) (r.steps.getD n default):=by
 unfold rulN;rw[List.range_succ,List.flatMap_append];simp
theorem Zhf{s:Sco}{sc:List Scene}{v:Vw}{r:Rul}(h:ruleE s r=0):∀n,n<=r.steps.length->(rulW s sc v r n).length<=256*n
 |0,_=>by simp[rulW]
 |n+1,hn=>by
  rw[Zaw,ql];have h1:=Zhf (sc:=sc) (v:=v) h n (by omega);have h2:=Zij (sc:=sc) (v:=v) (c:=cauR r) (i:=n) ((Z1f h).2.2.2 n (by omega));omega
theorem Zhd(r:Rul):∀n,(rulM r n).length<=n
 |0=>by simp[rulM]
 |n+1=>by
  rw[Zau,ql];have:=Zhd r n;have h2:(stpM (cauR r) (r.steps.getD n default) n).length<=1:=by unfold stpM;split<;>simp
  omega
theorem Zhe(r:Rul):∀n,(rulN r n).length<=n
 |0=>by simp[rulN]
 |n+1=>by
  rw[Zav,ql];have:=Zhe r n;have h2:(stpN (cauR r) (r.steps.getD n default)).length<=1:=by unfold stpN;split<;>simp
  omega
def rawO(s:Sco)(sc:List Scene)(v:Vw)(l:List Rul):Out:=⟨allW s sc v l,allM l,l.map Rul.name,allN l⟩
def rawK(s:Sco)(sc:List Scene)(v:Vw)(h:Hap)(l:List Rul)(k:Nat):Out:=rawO s sc v (ranL v h (l.take k))
def rawJ(s:Sco)(sc:List Scene)(v:Vw)(o:Out)(r:Rul)(j:Nat):Out:=⟨o.writes++rulW s sc v r j,o.modes++rulM r j,o.ran ++ [r.name],o.notes++rulN r j⟩
theorem Zao{s:Sco}{sc:List Scene}{v:Vw}{h:Hap}{l:List Rul}{k:Nat}(hk:k<l.length)(hr:ranB v h (l.getD k default)=false):rawK s sc v h l (k+1)=rawK s sc v h l k:=by
 unfold rawK ranL;rw[Z09 hk,List.filter_append];simp[hr,-List.getD_eq_getElem?_getD]
theorem Zap{s:Sco}{sc:List Scene}{v:Vw}{h:Hap}{l:List Rul}{k:Nat}(hk:k<l.length)(hr:ranB v h (l.getD k default)=true):rawK s sc v h l (k+1)=rawJ s sc v (rawK s sc v h l k) (l.getD k default) (l.getD k default).steps.length:=by
 unfold rawK ranL rawJ rawO allW allM allN;rw[Z09 hk,List.filter_append];simp[hr,-List.getD_eq_getElem?_getD]
structure lenO (o:Out) (k:Nat):Prop where
 w:o.writes.length<=2048*k
 m:o.modes.length<=8*k
 r:o.ran.length<=k
 n:o.notes.length<=8*k
theorem Zan{s:Sco}{sc:List Scene}{v:Vw}{o:Out}{r:Rul}{j k:Nat}(h:lenO o k)(hr:ruleE s r=0)(hj:j<=r.steps.length):lenO (rawJ s sc v o r j) (k+1):=by
 have h8:=(Z5w (Z1f hr).1).2;have h1:=Zhf (sc:=sc) (v:=v) hr j hj;have h2:=Zhd r j;have h3:=Zhe r j;refine⟨?_,?_,?_,?_⟩
 ·have:=h.w;simp only[rawJ,ql];omega
 ·have:=h.m;simp only[rawJ,ql];omega
 ·have:=h.r;simp only[rawJ,ql,List.length_singleton];omega
 have:=h.n;simp only[rawJ,ql];omega
theorem Z7i{s:Sco}{sc:List Scene}{v:Vw}{h:Hap}{l:List Rul}(hr:∀r∈l,ruleE s r=0):∀k,k<=l.length->lenO (rawK s sc v h l k) k
 |0,_=>⟨by simp[rawK,rawO,allW,ranL],by simp[rawK,rawO,allM,ranL],by simp[rawK,rawO,ranL],by simp[rawK,rawO,allN,ranL]⟩
 |k+1,hk=>by
  have ih:=Z7i (sc:=sc) (v:=v) (h:=h) hr k (by omega);cases e:ranB v h (l.getD k default)with
  |false=>
   rw[Zao (by omega) e];have a:=ih.w;have b:=ih.m;have c:=ih.r;have d:=ih.n;exact⟨by omega,by omega,by omega,by omega⟩
  |true=>
   rw[Zap (by omega) e];exact Zan ih (hr _ (by rw[Z03 _ _ (show k<l.length by omega)];exact qE _)) (qL _)
theorem Zax(s:Sco)(sc:List Scene)(v:Vw)(h:Hap)(l:List Rul):runO s sc v h l=⟨isortR ordW (rawK s sc v h l l.length).writes,isortR ordW (rawK s sc v h l l.length).modes,sortS (rawK s sc v h l l.length).ran,sortS (rawK s sc v h l l.length).notes⟩:=by
 unfold rawK;rw[List.take_length];rfl
theorem Zih{r:Rul}(h:rulE r=0){i:Nat}(hi:i<r.steps.length):r.name.size<=24∧((r.steps.getD i default).kind=5->(r.steps.getD i default).name.size<=60):=by
 constructor
 ·have h1:validName r.name=true:=by
   cases e:validName r.name with
   |true=>rfl
   |false=>unfold rulE at h;rw[qK e]at h;cases h
  exact(validName_iff.1 h1).2.1
 intro hk;have hs:=Zat h i hi;unfold stpE at hs;rw[qJ (by omega),qJ (by omega),qK (by omega)]at hs
 split at hs
 ·cases hs
 try rw[qK hk]at hs
 split at hs
 ·cases hs
 omega
theorem Zvp{r:Rul}(h:rulE r=0){i:Nat}(hi:i<r.steps.length):(r.steps.getD i default).kind=1∨(r.steps.getD i default).kind=2∨(r.steps.getD i default).kind=3∨(r.steps.getD i default).kind=4∨(r.steps.getD i default).kind=5:=by
 have hs:=Zat h i hi;unfold stpE at hs
 by_cases h1:(r.steps.getD i default).kind=1
 ·exact .inl h1
 by_cases h2:(r.steps.getD i default).kind=2
 ·exact .inr (.inl h2)
 by_cases h3:(r.steps.getD i default).kind=3∨(r.steps.getD i default).kind=4∨(r.steps.getD i default).kind=5
 ·exact .inr (.inr h3)
 rw[qJ h1,qJ h2,qJ h3]at hs;cases hs
theorem stp_1{s:Sco}{sc:List Scene}{v:Vw}{c:Cause}{x:Stp}{i:Int}(h:x.kind=1):stpW s sc v c x i=setW s v x c i∧stpM c x i = []∧stpN c x = []:=
 ⟨by unfold stpW;rw[qK h],by unfold stpM;rw[qJ (by omega)],by unfold stpN;rw[qJ (by omega)]⟩
theorem stp_2{s:Sco}{sc:List Scene}{v:Vw}{c:Cause}{x:Stp}{i:Int}(h:x.kind=2):stpW s sc v c x i=callW s v x c i∧stpM c x i = []∧stpN c x = []:=
 ⟨by unfold stpW;rw[qJ (by omega),qK h],by unfold stpM;rw[qJ (by omega)],by unfold stpN;rw[qJ (by omega)]⟩
theorem stp_3{s:Sco}{sc:List Scene}{v:Vw}{c:Cause}{x:Stp}{i:Int}(h:x.kind=3):stpW s sc v c x i=sceW s sc x c i∧stpM c x i = []∧stpN c x = []:=
 ⟨by unfold stpW;rw[qJ (by omega),qJ (by omega),qK h],by unfold stpM;rw[qJ (by omega)],by unfold stpN;rw[qJ (by omega)]⟩
theorem stp_4{s:Sco}{sc:List Scene}{v:Vw}{c:Cause}{x:Stp}{i:Int}(h:x.kind=4):stpW s sc v c x i = []∧stpM c x i = [⟨noKey,⟨4,0,x.name⟩,c,i⟩]∧stpN c x = []:=
 ⟨by unfold stpW;rw[qJ (by omega),qJ (by omega),qJ (by omega)],by unfold stpM;rw[qK h],by unfold stpN;rw[qJ (by omega)]⟩
theorem stp_5{s:Sco}{sc:List Scene}{v:Vw}{c:Cause}{x:Stp}{i:Int}(h:x.kind=5):stpW s sc v c x i = []∧stpM c x i = []∧stpN c x = [c.name++(⟨#[58,32]⟩:ByteArray)++x.name]:=
 ⟨by unfold stpW;rw[qJ (by omega),qJ (by omega),qJ (by omega)],by unfold stpM;rw[qJ (by omega)],by unfold stpN;rw[qK h]⟩
def runH(s:Sco)(sc:List Scene)(v:Vw)(o:Out):List (Nat×AObj):=[(40,runB s sc v 501 502 503 504),(501,rowL 10 cWrite o.writes),(502,rowL 10 cWrite o.modes),(503,rowL 1 cstr o.ran),(504,rowL 1 cstr o.notes)]
def runJ(s:Sco)(sc:List Scene)(v:Vw)(o:Out):List (Nat×AObj):=[(40,runB s sc v 511 512 513 514),(511,rowL 10 cWrite o.writes),(512,rowL 10 cWrite o.modes),(513,rowL 1 cstr o.ran),(514,rowL 1 cstr o.notes)]
def wrD:PV->Write
 | .agg [.val (.int _ d),.val (.string c),.val (.string a),.val (.int _ k),.val (.int _ n),.val (.string s),.val (.int _ e),.val (.string f),.val (.int _ g),.val (.int _ o)]=>⟨⟨d,c,a⟩,⟨k,n,s⟩,⟨e,f,g⟩,o⟩
 |_=>default
def ordG:List PV->Int:=fun xs=>cmpW (wrD (xs.getD 0 .cap0)) (wrD (xs.getD 1 .cap0))
theorem Zk8(a b:Write):AC Tryz.prog 30 [.pv (.agg (cWrite a)),.pv (.agg (cWrite b))] [] (.pv (vint (ordG [.agg (cWrite a),.agg (cWrite b)]))) []:=Zm4 a b
theorem Zco(l:List Write)(hl:l.length<=1048576):AC Tryz.prog 29 [.own 900000,.fn 30 []] [(900000,rowL 10 cWrite l)] (.pv (.tup [])) [(900000,rowL 10 cWrite (isortR ordW l))]:=
 Zmv 30 Tryz.call30 ordG ordW Z7v (fun a b=>Zoy a b) Zk8 l hl
theorem Zb6{α:Type}{l:List α}(h:l.length<=1048576):smallL l:=h
set_option maxHeartbeats 4000000 in
theorem Z2a(s:Sco)(sc:List Scene)(v:Vw)(p:Hap)(l:List Rul)(hs:smallS s)(hsc:smallL sc)(hsi:∀i,i<sc.length->smallL (sc.getD i default).items)(hv:smallV2 v)(hp:smallHp p) :
  AC Tryz.prog 11 [.pv (.agg (cSco s)),.pv (roL 2 cSce sc),.pv (roL 15 cRul l),.pv (.agg (cVw v)),.pv (.agg (cHap p))] [] (.pv (.tup [.agg (cOut (runR s sc v p l)),vint (runE s l)])) []:=by
 refine AC.of_awp (T:=T) T_ok hm Tryz.call11 Tryz.func11 rfl rfl rfl ?_
 conv=>whnf
 repeat(any_goals((first|refine⟨QT ?_,QF ?_⟩<;>intro h<;>(try simp only[Q0,Q1,Q2,Q3,Q4,Q5,Q6,Q7,Q8,reduceCtorEq]at h)|refine .inl ⟨_,Znd s hs,?_⟩|refine .inl ⟨_,Zng s l hs,?_⟩)<;>conv=>whnf))
 ·rw[runR,qJ (by rw[runE,qK h];exact h),runE,qK h];refine⟨?_,?_⟩<;>(conv=>whnf)
  ·exact QE
  exact QE
 ·have e0:runE s l=(rulesE s l).2:=by rw[runE,qJ (fun x=>x (by assumption))]
  rw[runR,qJ (by rw[e0];exact h),e0];refine⟨?_,?_⟩<;>(conv=>whnf)
  ·exact QE
  exact QE
 have he:runE s l=0:=Z5x (by assumption) h;have ok:=(Z2n s l).1 h;have h40:=ok.1;have hok:∀k,k<l.length->ruleE s (l.getD k default)=0:=fun k hk=>ok.2.1 _ (by rw[Z03 _ _ hk];exact qE _)
 rw[runR,qK he,Zax,he];have hlen:=Z7i (s:=s) (sc:=sc) (v:=v) (h:=p) ok.2.1;have hno:=fun k hk=>Zao (s:=s) (sc:=sc) (v:=v) (h:=p) (l:=l) (k:=k) hk
 have hyes:=fun k hk=>Zap (s:=s) (sc:=sc) (v:=v) (h:=p) (l:=l) (k:=k) hk
 have h00:rawK s sc v p l 0=noOut:=by unfold rawK rawO ranL allW allM allN;simp;rfl
 generalize rawK s sc v p l=R at *;refine loop_k (ι:=Nat) [8,9,10,15,41,42] [8,9,10] (fun k=>k<=l.length) (fun k=>l.length-k) 0 (fun k=>[(43,.pv (vint k))]) (fun k=>runH s sc v (R k)) [] (qe _) ?_ (fun k hk=>?_)
 ·rw[h00];(repeat'(first|exact QC|refine qa ?_ ?_))
  all_goals(intro j hj;exact absurd hj (by simp[noOut]))
 have hl0:=hlen k hk;have hlw:=hl0.w;have hlm:=hl0.m;have hlr:=hl0.r;have hln:=hl0.n
 conv=>whnf
 refine⟨fun h=>?_,fun h=>?_⟩<;>(try simp only[Q0,Q1,Q2,Q3,Q4,Q5,Q6,Q7,Q8,reduceCtorEq]at h)<;>(conv=>whnf)
 ·have hk2:k<l.length:=by omega
  have hr:=hok k hk2;have hlens:=Z5w (Z1f hr).1;replace hno:=hno k hk2;replace hyes:=hyes k hk2;have hb:∀b,ranB v p (l.getD k default)=b↔(anyB (l.getD k default) p&&truE v (l.getD k default).cond)=b:=fun b=>Iff.rfl
  generalize R k=o at *
  repeat(any_goals((first|refine⟨QT ?_,QF ?_⟩<;>intro h<;>(try simp only[Q0,Q1,Q2,Q3,Q4,Q5,Q6,Q7,Q8,reduceCtorEq]at h)|refine .inl ⟨_,Zmz (l.getD k default) p (Zb6 (by omega)) hp,?_⟩|refine .inl ⟨_,Zjm v (l.getD k default).cond hv,?_⟩|refine .inl ⟨_,Zm0 (l.getD k default).steps (Zb6 (by omega)),?_⟩|refine QI ?_|refine QK ?_|refine .inl ⟨wrap64 (by omega),?_⟩)<;>conv=>whnf))
  ·refine⟨k+1,[],by omega,by omega,?_⟩;rw[hno ((hb false).2 (by rw[h];rfl))];(repeat'(first|exact QC|refine qa ?_ ?_))
   all_goals(intro j hj;exact PSubs.rfl)
  ·refine⟨k+1,[],by omega,by omega,?_⟩;rw[hno ((hb false).2 (by rw[h,Bool.and_false]))];(repeat'(first|exact QC|refine qa ?_ ?_))
   all_goals(intro j hj;exact PSubs.rfl)
  replace hyes:=hyes ((hb true).2 (by rw[h,Bool.and_true];assumption));have hnl:(l.getD k default).steps.length<=8:=hlens.2;have hj0:rawJ s sc v o (l.getD k default) 0=⟨o.writes,o.modes,o.ran ++ [(l.getD k default).name],o.notes⟩:=by simp[rawJ,rulW,rulM,rulN]
  refine loop_k (ι:=Nat) [8,9,10,15,17,41,42,43,73,74] [8,9,10,17] (fun j=>j<=(l.getD k default).steps.length) (fun j=>(l.getD k default).steps.length-j) 0 (fun j=>[(75,.pv (vint j))]) (fun j=>runJ s sc v (rawJ s sc v o (l.getD k default) j)) [(511,501),(512,502),(513,67),(514,504)] (qe _) ?_ (fun j hj=>?_)
  ·rw[hj0]
   conv=>whnf
   (repeat'(first|exact QC|refine qa ?_ ?_))
   all_goals first
    |(intro j hj;exact PSubs.rfl)
    |(simp;done)
    |skip
   all_goals
    refine Z05 (fun i hi=>by simp only[qK hi];exact PSubs.rfl) (by simp only[qJ (qM _),Nat.sub_self];exact PSubs.rfl)
  have hL:=Zan (sc:=sc) (v:=v) (j:=j) hl0 hr hj;have hLw:=hL.w;have hLm:=hL.m;have hLn:=hL.n
  conv=>whnf
  refine⟨fun h=>?_,fun h=>?_⟩<;>(try simp only[Q0,Q1,Q2,Q3,Q4,Q5,Q6,Q7,Q8,reduceCtorEq]at h)<;>(conv=>whnf)
  ·have hj2:j<(l.getD k default).steps.length:=by omega
   have hx:=(Z1f hr).2.2.2 j hj2;have hz:=Zih (Z1f hr).1 hj2;have hkk:=Zvp (Z1f hr).1 hj2;have s1:=Zaw s sc v (l.getD k default) j;have s2:=Zau (l.getD k default) j;have s3:=Zav (l.getD k default) j
   repeat(any_goals((first|refine QI ?_)<;>conv=>whnf))
   rcases hkk with hk1|hk1|hk1|hk1|hk1
   ·have hW:=stp_1 (s:=s) (sc:=sc) (v:=v) (c:=cauR (l.getD k default)) (i:=(j:Int)) hk1;rw[qK (show((l.getD k default).steps.getD ((j:Int)).toNat default).kind=1 from hk1)]
    conv=>whnf
    refine⟨_,[(900000,40),(900001,511),(900002,512),(900003,513),(900004,514)],[(1,701)],_,_,_,Zm5 s sc v (rawJ s sc v o (l.getD k default) j) ((l.getD k default).steps.getD j default) (cauR (l.getD k default)) j hs hv (by omega),(by kernel_rfl),rfl,?_⟩
    conv=>whnf
    have eJ:rawJ s sc v o (l.getD k default) (j+1)=⟨(rawJ s sc v o (l.getD k default) j).writes++setW s v ((l.getD k default).steps.getD j default) (cauR (l.getD k default)) j,(rawJ s sc v o (l.getD k default) j).modes,(rawJ s sc v o (l.getD k default) j).ran,(rawJ s sc v o (l.getD k default) j).notes⟩:=by
     unfold rawJ;rw[s1,s2,s3,hW.1,hW.2.1,hW.2.2];simp only[List.append_assoc,List.append_nil]
    repeat(any_goals((first|refine .inl ⟨wrap64 (by omega),?_⟩)<;>conv=>whnf))
    refine⟨j+1,[(511,701)],by omega,by omega,?_⟩;rw[eJ]
    conv=>whnf
    (repeat'(first|exact QC|refine qa ?_ ?_))
    all_goals(intro j hj;exact PSubs.rfl)
   ·have hW:=stp_2 (s:=s) (sc:=sc) (v:=v) (c:=cauR (l.getD k default)) (i:=(j:Int)) hk1;rw[qJ (show ¬((l.getD k default).steps.getD ((j:Int)).toNat default).kind=1 from by rw[show((l.getD k default).steps.getD ((j:Int)).toNat default).kind=_ from hk1];decide)];rw[qK (show((l.getD k default).steps.getD ((j:Int)).toNat default).kind=2 from hk1)];obtain⟨kc,hkc⟩:=clu_of hk1 hx
    conv=>whnf
    refine⟨_,[(900000,40),(900001,511),(900002,512),(900003,513),(900004,514)],[(1,701)],_,_,_,Zm1 s sc v (rawJ s sc v o (l.getD k default) j) ((l.getD k default).steps.getD j default) (cauR (l.getD k default)) j kc hs hv hkc (by have:=hkc.chk.attrs;omega),(by kernel_rfl),rfl,?_⟩
    conv=>whnf
    have eJ:rawJ s sc v o (l.getD k default) (j+1)=⟨(rawJ s sc v o (l.getD k default) j).writes++callW s v ((l.getD k default).steps.getD j default) (cauR (l.getD k default)) j,(rawJ s sc v o (l.getD k default) j).modes,(rawJ s sc v o (l.getD k default) j).ran,(rawJ s sc v o (l.getD k default) j).notes⟩:=by
     unfold rawJ;rw[s1,s2,s3,hW.1,hW.2.1,hW.2.2];simp only[List.append_assoc,List.append_nil]
    repeat(any_goals((first|refine .inl ⟨wrap64 (by omega),?_⟩)<;>conv=>whnf))
    refine⟨j+1,[(511,701)],by omega,by omega,?_⟩;rw[eJ]
    conv=>whnf
    (repeat'(first|exact QC|refine qa ?_ ?_))
    all_goals(intro j hj;exact PSubs.rfl)
   ·have hW:=stp_3 (s:=s) (sc:=sc) (v:=v) (c:=cauR (l.getD k default)) (i:=(j:Int)) hk1;rw[qJ (show ¬((l.getD k default).steps.getD ((j:Int)).toNat default).kind=1 from by rw[show((l.getD k default).steps.getD ((j:Int)).toNat default).kind=_ from hk1];decide)];rw[qJ (show ¬((l.getD k default).steps.getD ((j:Int)).toNat default).kind=2 from by rw[show((l.getD k default).steps.getD ((j:Int)).toNat default).kind=_ from hk1];decide)];rw[qK (show((l.getD k default).steps.getD ((j:Int)).toNat default).kind=3 from hk1)]
    conv=>whnf
    refine⟨_,[(900000,40),(900001,511),(900002,512),(900003,513),(900004,514)],[(1,701)],_,_,_,Zm6 s sc v (rawJ s sc v o (l.getD k default) j) ((l.getD k default).steps.getD j default) (cauR (l.getD k default)) j hs hsc hsi (by have:=Zhp s sc ((l.getD k default).steps.getD j default) (cauR (l.getD k default)) j;omega),(by kernel_rfl),rfl,?_⟩
    conv=>whnf
    have eJ:rawJ s sc v o (l.getD k default) (j+1)=⟨(rawJ s sc v o (l.getD k default) j).writes++sceW s sc ((l.getD k default).steps.getD j default) (cauR (l.getD k default)) j,(rawJ s sc v o (l.getD k default) j).modes,(rawJ s sc v o (l.getD k default) j).ran,(rawJ s sc v o (l.getD k default) j).notes⟩:=by
     unfold rawJ;rw[s1,s2,s3,hW.1,hW.2.1,hW.2.2];simp only[List.append_assoc,List.append_nil]
    repeat(any_goals((first|refine .inl ⟨wrap64 (by omega),?_⟩)<;>conv=>whnf))
    refine⟨j+1,[(511,701)],by omega,by omega,?_⟩;rw[eJ]
    conv=>whnf
    (repeat'(first|exact QC|refine qa ?_ ?_))
    all_goals(intro j hj;exact PSubs.rfl)
   ·have hW:=stp_4 (s:=s) (sc:=sc) (v:=v) (c:=cauR (l.getD k default)) (i:=(j:Int)) hk1;rw[qJ (show ¬((l.getD k default).steps.getD ((j:Int)).toNat default).kind=1 from by rw[show((l.getD k default).steps.getD ((j:Int)).toNat default).kind=_ from hk1];decide)];rw[qJ (show ¬((l.getD k default).steps.getD ((j:Int)).toNat default).kind=2 from by rw[show((l.getD k default).steps.getD ((j:Int)).toNat default).kind=_ from hk1];decide)];rw[qJ (show ¬((l.getD k default).steps.getD ((j:Int)).toNat default).kind=3 from by rw[show((l.getD k default).steps.getD ((j:Int)).toNat default).kind=_ from hk1];decide)];rw[qK (show((l.getD k default).steps.getD ((j:Int)).toNat default).kind=4 from hk1)]
    conv=>whnf
    refine⟨_,[(900000,40),(900001,511),(900002,512),(900003,513),(900004,514)],[(1,701)],_,_,_,Zm7 s sc v (rawJ s sc v o (l.getD k default) j) ((l.getD k default).steps.getD j default) (cauR (l.getD k default)) j (by omega),(by kernel_rfl),rfl,?_⟩
    conv=>whnf
    have eJ:rawJ s sc v o (l.getD k default) (j+1)=⟨(rawJ s sc v o (l.getD k default) j).writes,(rawJ s sc v o (l.getD k default) j).modes ++ [⟨noKey,⟨4,0,((l.getD k default).steps.getD j default).name⟩,cauR (l.getD k default),j⟩],(rawJ s sc v o (l.getD k default) j).ran,(rawJ s sc v o (l.getD k default) j).notes⟩:=by
     unfold rawJ;rw[s1,s2,s3,hW.1,hW.2.1,hW.2.2];simp only[List.append_assoc,List.append_nil]
    repeat(any_goals((first|refine .inl ⟨wrap64 (by omega),?_⟩)<;>conv=>whnf))
    refine⟨j+1,[(512,701)],by omega,by omega,?_⟩;rw[eJ]
    conv=>whnf
    (repeat'(first|exact QC|refine qa ?_ ?_))
    all_goals(intro j hj;exact PSubs.rfl)
   have hW:=stp_5 (s:=s) (sc:=sc) (v:=v) (c:=cauR (l.getD k default)) (i:=(j:Int)) hk1;rw[qJ (show ¬((l.getD k default).steps.getD ((j:Int)).toNat default).kind=1 from by rw[show((l.getD k default).steps.getD ((j:Int)).toNat default).kind=_ from hk1];decide)];rw[qJ (show ¬((l.getD k default).steps.getD ((j:Int)).toNat default).kind=2 from by rw[show((l.getD k default).steps.getD ((j:Int)).toNat default).kind=_ from hk1];decide)];rw[qJ (show ¬((l.getD k default).steps.getD ((j:Int)).toNat default).kind=3 from by rw[show((l.getD k default).steps.getD ((j:Int)).toNat default).kind=_ from hk1];decide)];rw[qJ (show ¬((l.getD k default).steps.getD ((j:Int)).toNat default).kind=4 from by rw[show((l.getD k default).steps.getD ((j:Int)).toNat default).kind=_ from hk1];decide)]
   conv=>whnf
   refine⟨_,[(900000,40),(900001,511),(900002,512),(900003,513),(900004,514)],[(1,701)],_,_,_,Zm3 s sc v (rawJ s sc v o (l.getD k default) j) ((l.getD k default).steps.getD j default) (cauR (l.getD k default)) j (by omega) (by show(l.getD k default).name.size<=_;have:=hz.1;omega) (by have:=hz.2 hk1;omega),(by kernel_rfl),rfl,?_⟩
   conv=>whnf
   have eJ:rawJ s sc v o (l.getD k default) (j+1)=⟨(rawJ s sc v o (l.getD k default) j).writes,(rawJ s sc v o (l.getD k default) j).modes,(rawJ s sc v o (l.getD k default) j).ran,(rawJ s sc v o (l.getD k default) j).notes ++ [(cauR (l.getD k default)).name++(⟨#[58,32]⟩:ByteArray)++((l.getD k default).steps.getD j default).name]⟩:=by
    unfold rawJ;rw[s1,s2,s3,hW.1,hW.2.1,hW.2.2];simp only[List.append_assoc,List.append_nil]
   repeat(any_goals((first|refine .inl ⟨wrap64 (by omega),?_⟩)<;>conv=>whnf))
   refine⟨j+1,[(514,701)],by omega,by omega,?_⟩;rw[eJ]
   conv=>whnf
   (repeat'(first|exact QC|refine qa ?_ ?_))
   all_goals(intro j hj;exact PSubs.rfl)
  have e:j=(l.getD k default).steps.length:=by omega
  rw[<-e]at hyes
  repeat(any_goals((first|refine .inl ⟨wrap64 (by omega),?_⟩)<;>conv=>whnf))
  refine⟨k+1,[(501,511),(502,512),(503,513),(504,514)],by omega,by omega,?_⟩;rw[hyes]
  conv=>whnf
  (repeat'(first|exact QC|refine qa ?_ ?_))
  all_goals(intro j hj;exact PSubs.rfl)
 have e:k=l.length:=by omega
 subst e;generalize R l.length=o at *;refine .inr (.inr (.inr (.inr ⟨[(900000,501)],[],_,_,_,Zco o.writes (by omega),rfl,?_⟩)))
 conv=>whnf
 refine .inr (.inr (.inr (.inr ⟨[(900000,502)],[],_,_,_,Zco o.modes (by omega),rfl,?_⟩)))
 conv=>whnf
 repeat(any_goals((first|refine .inl ⟨_,Zbu o.ran (by omega),?_⟩|refine .inl ⟨_,Zbu o.notes (by omega),?_⟩)<;>conv=>whnf))
 refine⟨?_,?_⟩<;>(conv=>whnf)
 all_goals trace_state
 ·exact QE
 exact QE
open Go.Proofs Go.RowKit
structure RuC where
 s:Sco
 sc:List Scene
 l:List Rul
 v:Vw
 h:Hap
def cRuC(c:RuC):List PV:=cSco c.s ++ [roL 2 cSce c.sc,roL 15 cRul c.l]++cVw c.v++cHap c.h
def smallSc(l:List Scene):Prop:=smallL l∧∀i,i<l.length->smallL (l.getD i default).items
def smallRl(l:List Rul):Prop:=smallL l∧∀i,i<l.length->goodRulO (l.getD i default)
structure smallRuC (c:RuC):Prop where
 s:smallS c.s
 sc:smallSc c.sc
 l:smallRl c.l
 v:smallV2 c.v
 h:smallHp c.h
structure smallOut (o:Out):Prop where
 w:smallL o.writes
 m:smallL o.modes
 r:smallL o.ran
 n:smallL o.notes
section
variable {H:Type} {enc:TypeId×Value->H} {w:World} {bulk:DataW H->Nat}
end
structure SameV (v w:Vw):Prop where
 items:∀k,findI v.items k=findI w.items k
 mode:v.mode=w.mode
 minute:v.minute=w.minute
 home:∀r,homeB v.members r=homeB w.members r
theorem SameV.at{v w:Vw}(h:SameV v w)(k:Key):atV v.items k=atV w.items k:=by unfold atV;rw[h.items]
def homeN:Hom:=⟨stdC,[⟨1,0,0,false,0,(⟨#[104,97,108,108]⟩:ByteArray),[(⟨#[108,101,118,101,108]⟩:ByteArray)]⟩]⟩
def scoN:Sco:=⟨homeN,[(⟨#[104,111,109,101]⟩:ByteArray),(⟨#[110,105,103,104,116]⟩:ByteArray)],[]⟩
def keyN:Key:=⟨1,(⟨#[108,101,118,101,108]⟩:ByteArray),(⟨#[108,101,118,101,108]⟩:ByteArray)⟩
def rulN1:Rul:=⟨(⟨#[110,105,103,104,116]⟩:ByteArray),10,[⟨5,noKey,noEvt,⟨#[]⟩,0,0⟩],.mk 1 0 0 ⟨#[]⟩ ⟨1,1,⟨#[]⟩⟩ noKey [],[⟨1,keyN,⟨#[]⟩,.mk 1 0 0 ⟨#[]⟩ ⟨2,150,⟨#[]⟩⟩ noKey []⟩,⟨4,noKey,(⟨#[110,105,103,104,116]⟩:ByteArray),noEx⟩]⟩
def vwN:Vw:=⟨[],⟨#[]⟩,0,[]⟩
def hapN(b:Bool):Hap:=⟨[],[],-1,-1,⟨#[]⟩,b,[]⟩
def nightC:RuC:=⟨scoN,[],[rulN1],vwN,hapN true⟩
def outN:Out:=⟨[⟨keyN,⟨2,100,⟨#[]⟩⟩,⟨2,(⟨#[110,105,103,104,116]⟩:ByteArray),10⟩,0⟩],[⟨noKey,⟨4,0,(⟨#[110,105,103,104,116]⟩:ByteArray)⟩,⟨2,(⟨#[110,105,103,104,116]⟩:ByteArray),10⟩,1⟩],[(⟨#[110,105,103,104,116]⟩:ByteArray)],[]⟩
theorem nn1:runE scoN [rulN1]=0:=by kernel_rfl
theorem nn2:runR scoN [] vwN (hapN true) [rulN1]=outN:=by kernel_rfl
theorem nn3:runR scoN [] vwN (hapN false) [rulN1]=noOut:=by kernel_rfl
theorem nn4:modeT outN.modes (⟨#[104,111,109,101]⟩:ByteArray)=(⟨#[110,105,103,104,116]⟩:ByteArray):=by kernel_rfl
theorem nn5:modeT noOut.modes (⟨#[104,111,109,101]⟩:ByteArray)=(⟨#[104,111,109,101]⟩:ByteArray):=by kernel_rfl
theorem Zhx:smallS scoN:=by
 refine⟨⟨⟨sl rfl,Zb5⟩,sl rfl,fun i=>?_⟩,sl rfl,sl rfl⟩;cases i with
 |zero=>exact⟨sl rfl,by decide,by decide⟩
 |succ i=>
  have:scoN.home.devices.getD (i+1) default=default:=rfl;rw[this];exact⟨qe _,by decide,by decide⟩
theorem Zhw(b:Bool):smallHp (hapN b):=⟨sl rfl,sl rfl,sl rfl⟩
theorem Zhy:smallV2 vwN:=⟨sl rfl,sl rfl⟩
theorem Zk1:AC Tryz.prog 23 [] [] (.pv (.agg (cRuC nightC))) []:=by
 refine AC.of_awp (T:=T) T_ok hm Tryz.call23 Tryz.func23 rfl rfl rfl ?_
 conv=>whnf
 repeat(any_goals((first|refine .inl ⟨_,AC.sub1 (Zkw true) (PSub.lit_sb rfl),?_⟩|refine .inl ⟨_,Z8c ⟨2,150,⟨#[]⟩⟩,?_⟩|refine .inl ⟨_,Zj8,?_⟩|refine QK ?_)<;>conv=>whnf))
 all_goals exact QE
theorem AC.sub5{P:Program}{f:FuncId}{p q p2 q2 p3 q3 p4 q4 p5 q5:PV}{os os':Upd}{res:AV}(h:AC P f [.pv q,.pv q2,.pv q3,.pv q4,.pv q5] os res os')(h1:PSub p q)(h2:PSub p2 q2)(h3:PSub p3 q3)(h4:PSub p4 q4)(h5:PSub p5 q5):AC P f [.pv p,.pv p2,.pv p3,.pv p4,.pv p5] os res os':=
 AC.sub (qs:=[q,q2,q3,q4,q5]) (ps:=[p,p2,p3,p4,p5]) h ⟨h1,h2,h3,h4,h5,trivial⟩
theorem Z2w:AC Tryz.prog 10 [] [] (.pv (vbool true)) []:=by
 have c1:=Z2a scoN [] vwN (hapN true) [rulN1] Zhx (sl rfl) (fun i hi=>absurd hi (by simp)) Zhy (Zhw true);have c2:=Z2a scoN [] vwN (hapN false) [rulN1] Zhx (sl rfl) (fun i hi=>absurd hi (by simp)) Zhy (Zhw false);rw[nn2,nn1]at c1;rw[nn3,nn1]at c2;have c3:=Z8j outN (⟨#[104,111,109,101]⟩:ByteArray) (sl rfl);have c4:=Z8j noOut (⟨#[104,111,109,101]⟩:ByteArray) (sl rfl);rw[nn4]at c3;rw[nn5]at c4;have c5:=Z54 noOut noOut ⟨by decide,by decide,by decide,by decide⟩;refine AC.of_awp (T:=T) T_ok hm Tryz.call10 Tryz.func10 rfl rfl rfl ?_
 conv=>whnf
 refine .inl ⟨_,Zk1,?_⟩
 conv=>whnf
 refine .inl ⟨_,AC.sub5 (c1) QE QE QE QE QE,?_⟩
 conv=>whnf
 conv=>whnf
 refine .inl ⟨_,AC.sub5 (c2) QE QE QE QE QE,?_⟩
 conv=>whnf
 conv=>whnf
 repeat(any_goals((first|refine⟨QT ?_,QF ?_⟩<;>intro h<;>(try simp only[Q0,Q1,Q2,Q3,Q4,Q5,Q6,Q7,Q8,reduceCtorEq]at h)|refine .inl ⟨_,c3,?_⟩|refine .inl ⟨_,c4,?_⟩|refine .inl ⟨_,AC.sub2 (c5) QE QE,?_⟩|refine QI ?_)<;>conv=>whnf))
 all_goals first
  |exact PSub.sb (qB rfl)
  |exact PSub.sb (by kernel_rfl)
  |exact PSub.lit_sb rfl
  |exact absurd trivial h
  |(exfalso;exact h (by kernel_rfl))
  |(exfalso;exact absurd (h.symm.trans (by kernel_rfl)) Bool.false_ne_true)
  |trace_state
end Go.Abs
