/- YtipbekclhmbclaaGreatDoorY02: walks and contracts. -/
import Derived.Test.YtipbekclhmbclaaGreatDoorY01

set_option linter.unusedVariables false
set_option linter.unusedSimpArgs false
set_option linter.unusedSectionVars false

namespace Go.Abs
open Go.Proofs
theorem Z2i(l:List Write):(isortR ordW l).length=l.length:=Z4l l
theorem Z5y{s:Sco}{sc:List Scene}{v:Vw}{h:Hap}{l:List Rul}:shortO (runR s sc v h l):=by
 unfold runR;split
 ·rename_i he;have ok:=(Z2n s l).1 (Z4s he).2;have h40:=ok.1;have hl:=Z7i (sc:=sc) (v:=v) (h:=h) ok.2.1 l.length (qL _);have a:=hl.w;have b:=hl.m;have c:=hl.r;have d:=hl.n;rw[Zax];refine⟨?_,?_,?_,?_⟩
  ·show(isortR _ _).length<=_;rw[Z2i];omega
  ·show(isortR _ _).length<=_;rw[Z2i];omega
  ·have:=Z32 (rawK s sc v h l l.length).ran;show(sortS _).length<=_;omega
  have:=Z32 (rawK s sc v h l l.length).notes;show(sortS _).length<=_;omega
 exact⟨by decide,by decide,by decide,by decide⟩
set_option maxRecDepth 10000
def addM(w m:List Write)(a b:Nat):AV:=.mix [.pv (roL 10 cWrite (isortR ordW w)),.pv (roL 10 cWrite (isortR ordW m)),.own a,.own b]
set_option maxHeartbeats 4000000 in
theorem Zls(s:Sco)(sc:List Scene)(v:Vw)(o:Out)(r:Rul)(i:Nat)(hs:smallS s)(hsc:smallL sc)(hsi:∀i,i<sc.length->smallL (sc.getD i default).items)(hv:smallV2 v)(hi:i<r.steps.length)
  (hw:o.writes.length+(stpW s sc v (cauR r) (r.steps.getD i default) i).length<=1048576) (hm0:o.modes.length<=1048576) (hn:o.notes.length<=1048576) (hrn:r.name.size<=1048576) (hxn:(r.steps.getD i default).kind=5->(r.steps.getD i default).name.size<=1048576) :
  AC Tryz.prog 36 [addM o.writes o.modes 900001 900002,.pv (.agg (cSco s)),.pv (roL 2 cSce sc),.pv (.agg (cRul r)),.pv (vint i),.pv (.agg (cVw v))] [(900001,rowL 1 cstr o.ran),(900002,rowL 1 cstr o.notes)]
   (addM (o.writes++stpW s sc v (cauR r) (r.steps.getD i default) i) (o.modes++stpM (cauR r) (r.steps.getD i default) i) 900001 1) [(900001,rowL 1 cstr o.ran),(900002,.gone),(1,rowL 1 cstr (o.notes++stpN (cauR r) (r.steps.getD i default)))]:=by
 have k1:=fun h=>stp_1 (s:=s) (sc:=sc) (v:=v) (c:=cauR r) (x:=r.steps.getD i default) (i:=i) h
 have k2:=fun h=>stp_2 (s:=s) (sc:=sc) (v:=v) (c:=cauR r) (x:=r.steps.getD i default) (i:=i) h
 have k3:=fun h=>stp_3 (s:=s) (sc:=sc) (v:=v) (c:=cauR r) (x:=r.steps.getD i default) (i:=i) h
 have k4:=fun h=>stp_4 (s:=s) (sc:=sc) (v:=v) (c:=cauR r) (x:=r.steps.getD i default) (i:=i) h
 have k5:=fun h=>stp_5 (s:=s) (sc:=sc) (v:=v) (c:=cauR r) (x:=r.steps.getD i default) (i:=i) h
 have k0:¬(r.steps.getD i default).kind=1->¬(r.steps.getD i default).kind=2->¬(r.steps.getD i default).kind=3->stpW s sc v (cauR r) (r.steps.getD i default) i = []:=fun h1 h2 h3=>by unfold stpW;rw[qJ h1,qJ h2,qJ h3]
 have km:¬(r.steps.getD i default).kind=4->stpM (cauR r) (r.steps.getD i default) i = []:=fun h=>qJ h
 have kn:¬(r.steps.getD i default).kind=5->stpN (cauR r) (r.steps.getD i default) = []:=fun h=>qJ h
 have hsz:(r.steps.getD i default).kind=5->((r.name.size+(⟨#[58,32]⟩:ByteArray).size:Nat):Int)<=IntKind.i64.max∧(((r.name++(⟨#[58,32]⟩:ByteArray)).size+(r.steps.getD i default).name.size:Nat):Int)<=IntKind.i64.max:=fun h=>by
  have:=hxn h;rw[ByteArray.size_append];constructor
  ·show((r.name.size+2:Nat):Int)<=9223372036854775807;omega
  show((r.name.size+2+(r.steps.getD i default).name.size:Nat):Int)<=9223372036854775807;omega
 have hml:(isortR ordW o.modes).length<=1048576:=by rw[Z2i];exact hm0
 have hput:=Z2y (lt:=ordW) o.modes ⟨noKey,⟨4,0,(r.steps.getD i default).name⟩,cauR r,i⟩;generalize stpW s sc v (cauR r) (r.steps.getD i default) i=W at *;generalize stpM (cauR r) (r.steps.getD i default) i=M at *;generalize stpN (cauR r) (r.steps.getD i default)=N at *;refine AC.of_awp_cel (T:=T) T_ok hm Tryz.call36 Tryz.func36 rfl rfl rfl rfl rfl rfl ?_
 conv=>whnf
 repeat(any_goals((first|refine⟨QT ?_,QF ?_⟩<;>intro h<;>(try simp only[Q0,Q1,Q2,Q3,Q4,Q5,Q6,Q7,Q8,reduceCtorEq]at h)|refine .inl ⟨_,Zlw s v (r.steps.getD i default) (cauR r) i hs hv,?_⟩|refine .inl ⟨_,Zlu s v (r.steps.getD i default) (cauR r) i hs hv,?_⟩|refine .inl ⟨_,Zlv s sc (r.steps.getD i default) (cauR r) i hs hsc hsi,?_⟩|refine .inl ⟨_,Z36 (isortR ordW o.modes) ⟨noKey,⟨4,0,(r.steps.getD i default).name⟩,cauR r,i⟩ hml,?_⟩|refine QI ?_)<;>conv=>whnf))
 ·obtain⟨e1,e2,e3⟩:=k1 h;rw[<-e1];subst e2;subst e3;simp only[List.append_nil];refine loop_k (ι:=Nat) [6,12] [12] (fun k=>k<=W.length) (fun k=>W.length-k) 0 (fun k=>[(15,.pv (roL 10 cWrite W)),(16,.pv (vint k))]) (fun k=>[(6,.box [.pv (roL 10 cWrite (isortR ordW (o.writes++W.take k))),.pv (roL 10 cWrite (isortR ordW (o.modes))),.own 900001,.own 501]),(900001,rowL 1 cstr o.ran),(900002,.gone),(501,rowL 1 cstr (o.notes))]) [(501,900002)] (qe _) ?_ (fun k hk=>?_)
  ·rw[List.take_zero,List.append_nil]
   try rw[hput]
   conv=>whnf
   (repeat'(first|exact QC|refine qa ?_ ?_))
   all_goals first
    |(intro i hi;exact PSubs.rfl)
    |exact PSub.nilL e1
    |(simp;done)
    |skip
   all_goals
    refine Z05 (fun i hi=>by simp only[qK hi];exact PSubs.rfl) (by simp only[qJ (qM _),Nat.sub_self];exact PSubs.rfl)
  have hwl:(isortR ordW (o.writes++W.take k)).length<=o.writes.length+k:=by rw[Z2i,ql,qq];omega
  conv=>whnf
  refine⟨fun h=>?_,fun h=>?_⟩<;>(try simp only[Q0,Q1,Q2,Q3,Q4,Q5,Q6,Q7,Q8,reduceCtorEq]at h)<;>(conv=>whnf)
  ·have hk2:k<W.length:=by omega
   repeat(any_goals((first|refine .inl ⟨_,Z36 (isortR ordW (o.writes++W.take k)) (W.getD k default) (by omega),?_⟩|refine QI ?_|refine QK ?_|refine .inl ⟨wrap64 (by omega),?_⟩)<;>conv=>whnf))
   refine⟨k+1,[],by omega,by omega,?_⟩;rw[Z09 hk2,<-List.append_assoc,Z2y (o.writes++W.take k)]
   conv=>whnf
   (repeat'(first|exact QC|refine qa ?_ ?_))
   all_goals(intro i hi;exact PSubs.rfl)
  have e:k=W.length:=by omega
  subst e;rw[List.take_length]
  conv=>whnf
  refine⟨[(1,501)],?_⟩
  conv=>whnf
  (repeat'(first|exact QC|refine qa ?_ ?_))
  all_goals(intro i hi;exact PSubs.rfl)
 ·obtain⟨e1,e2,e3⟩:=k2 h;rw[<-e1];subst e2;subst e3;simp only[List.append_nil];refine loop_k (ι:=Nat) [6,12] [12] (fun k=>k<=W.length) (fun k=>W.length-k) 0 (fun k=>[(15,.pv (roL 10 cWrite W)),(16,.pv (vint k))]) (fun k=>[(6,.box [.pv (roL 10 cWrite (isortR ordW (o.writes++W.take k))),.pv (roL 10 cWrite (isortR ordW (o.modes))),.own 900001,.own 501]),(900001,rowL 1 cstr o.ran),(900002,.gone),(501,rowL 1 cstr (o.notes))]) [(501,900002)] (qe _) ?_ (fun k hk=>?_)
  ·rw[List.take_zero,List.append_nil]
   try rw[hput]
   conv=>whnf
   (repeat'(first|exact QC|refine qa ?_ ?_))
   all_goals first
    |(intro i hi;exact PSubs.rfl)
    |exact PSub.nilL e1
    |(simp;done)
    |skip
   all_goals
    refine Z05 (fun i hi=>by simp only[qK hi];exact PSubs.rfl) (by simp only[qJ (qM _),Nat.sub_self];exact PSubs.rfl)
  have hwl:(isortR ordW (o.writes++W.take k)).length<=o.writes.length+k:=by rw[Z2i,ql,qq];omega
  conv=>whnf
  refine⟨fun h=>?_,fun h=>?_⟩<;>(try simp only[Q0,Q1,Q2,Q3,Q4,Q5,Q6,Q7,Q8,reduceCtorEq]at h)<;>(conv=>whnf)
  ·have hk2:k<W.length:=by omega
   repeat(any_goals((first|refine .inl ⟨_,Z36 (isortR ordW (o.writes++W.take k)) (W.getD k default) (by omega),?_⟩|refine QI ?_|refine QK ?_|refine .inl ⟨wrap64 (by omega),?_⟩)<;>conv=>whnf))
   refine⟨k+1,[],by omega,by omega,?_⟩;rw[Z09 hk2,<-List.append_assoc,Z2y (o.writes++W.take k)]
   conv=>whnf
   (repeat'(first|exact QC|refine qa ?_ ?_))
   all_goals(intro i hi;exact PSubs.rfl)
  have e:k=W.length:=by omega
  subst e;rw[List.take_length]
  conv=>whnf
  refine⟨[(1,501)],?_⟩
  conv=>whnf
  (repeat'(first|exact QC|refine qa ?_ ?_))
  all_goals(intro i hi;exact PSubs.rfl)
 ·obtain⟨e1,e2,e3⟩:=k3 h;rw[<-e1];subst e2;subst e3;simp only[List.append_nil];refine loop_k (ι:=Nat) [6,12] [12] (fun k=>k<=W.length) (fun k=>W.length-k) 0 (fun k=>[(15,.pv (roL 10 cWrite W)),(16,.pv (vint k))]) (fun k=>[(6,.box [.pv (roL 10 cWrite (isortR ordW (o.writes++W.take k))),.pv (roL 10 cWrite (isortR ordW (o.modes))),.own 900001,.own 501]),(900001,rowL 1 cstr o.ran),(900002,.gone),(501,rowL 1 cstr (o.notes))]) [(501,900002)] (qe _) ?_ (fun k hk=>?_)
  ·rw[List.take_zero,List.append_nil]
   try rw[hput]
   conv=>whnf
   (repeat'(first|exact QC|refine qa ?_ ?_))
   all_goals first
    |(intro i hi;exact PSubs.rfl)
    |exact PSub.nilL e1
    |(simp;done)
    |skip
   all_goals
    refine Z05 (fun i hi=>by simp only[qK hi];exact PSubs.rfl) (by simp only[qJ (qM _),Nat.sub_self];exact PSubs.rfl)
  have hwl:(isortR ordW (o.writes++W.take k)).length<=o.writes.length+k:=by rw[Z2i,ql,qq];omega
  conv=>whnf
  refine⟨fun h=>?_,fun h=>?_⟩<;>(try simp only[Q0,Q1,Q2,Q3,Q4,Q5,Q6,Q7,Q8,reduceCtorEq]at h)<;>(conv=>whnf)
  ·have hk2:k<W.length:=by omega
   repeat(any_goals((first|refine .inl ⟨_,Z36 (isortR ordW (o.writes++W.take k)) (W.getD k default) (by omega),?_⟩|refine QI ?_|refine QK ?_|refine .inl ⟨wrap64 (by omega),?_⟩)<;>conv=>whnf))
   refine⟨k+1,[],by omega,by omega,?_⟩;rw[Z09 hk2,<-List.append_assoc,Z2y (o.writes++W.take k)]
   conv=>whnf
   (repeat'(first|exact QC|refine qa ?_ ?_))
   all_goals(intro i hi;exact PSubs.rfl)
  have e:k=W.length:=by omega
  subst e;rw[List.take_length]
  conv=>whnf
  refine⟨[(1,501)],?_⟩
  conv=>whnf
  (repeat'(first|exact QC|refine qa ?_ ?_))
  all_goals(intro i hi;exact PSubs.rfl)
 ·obtain⟨e1,e2,e3⟩:=k4 h;subst e2;subst e3;simp only[List.append_nil];have hW0:W.length=0:=by rw[e1];rfl
  refine loop_k (ι:=Nat) [6,12] [12] (fun k=>k<=W.length) (fun k=>W.length-k) 0 (fun k=>[(15,.pv (roL 10 cWrite W)),(16,.pv (vint k))]) (fun k=>[(6,.box [.pv (roL 10 cWrite (isortR ordW (o.writes++W.take k))),.pv (roL 10 cWrite (isortR ordW (o.modes ++ [⟨noKey,⟨4,0,(r.steps.getD i default).name⟩,cauR r,i⟩]))),.own 900001,.own 501]),(900001,rowL 1 cstr o.ran),(900002,.gone),(501,rowL 1 cstr (o.notes))]) [(501,900002)] (qe _) ?_ (fun k hk=>?_)
  ·rw[List.take_zero,List.append_nil]
   try rw[hput]
   conv=>whnf
   (repeat'(first|exact QC|refine qa ?_ ?_))
   all_goals first
    |(intro i hi;exact PSubs.rfl)
    |exact PSub.nilL e1
    |(simp;done)
    |skip
   all_goals
    refine Z05 (fun i hi=>by simp only[qK hi];exact PSubs.rfl) (by simp only[qJ (qM _),Nat.sub_self];exact PSubs.rfl)
  have hwl:(isortR ordW (o.writes++W.take k)).length<=o.writes.length+k:=by rw[Z2i,ql,qq];omega
  conv=>whnf
  refine⟨fun h=>?_,fun h=>?_⟩<;>(try simp only[Q0,Q1,Q2,Q3,Q4,Q5,Q6,Q7,Q8,reduceCtorEq]at h)<;>(conv=>whnf)
  ·have hk2:k<W.length:=by omega
   repeat(any_goals((first|refine .inl ⟨_,Z36 (isortR ordW (o.writes++W.take k)) (W.getD k default) (by omega),?_⟩|refine QI ?_|refine .inl ⟨wrap64 (by omega),?_⟩)<;>conv=>whnf))
   refine⟨k+1,[],by omega,by omega,?_⟩;rw[Z09 hk2,<-List.append_assoc,Z2y (o.writes++W.take k)]
   conv=>whnf
   (repeat'(first|exact QC|refine qa ?_ ?_))
   all_goals(intro i hi;exact PSubs.rfl)
  have e:k=W.length:=by omega
  subst e;rw[List.take_length]
  conv=>whnf
  refine⟨[(1,501)],?_⟩
  conv=>whnf
  (repeat'(first|exact QC|refine qa ?_ ?_))
  all_goals(intro i hi;exact PSubs.rfl)
 ·obtain⟨e1,e2,e3⟩:=k5 h;subst e2;subst e3;simp only[List.append_nil];have hW0:W.length=0:=by rw[e1];rfl
  refine loop_k (ι:=Nat) [6,12] [12] (fun k=>k<=W.length) (fun k=>W.length-k) 0 (fun k=>[(15,.pv (roL 10 cWrite W)),(16,.pv (vint k))]) (fun k=>[(6,.box [.pv (roL 10 cWrite (isortR ordW (o.writes++W.take k))),.pv (roL 10 cWrite (isortR ordW (o.modes))),.own 900001,.own 501]),(900001,rowL 1 cstr o.ran),(900002,.gone),(501,rowL 1 cstr (o.notes ++ [(cauR r).name++(⟨#[58,32]⟩:ByteArray)++(r.steps.getD i default).name]))]) [(501,76)] (qe _) ?_ (fun k hk=>?_)
  ·rw[List.take_zero,List.append_nil]
   try rw[hput]
   conv=>whnf
   (repeat'(first|exact QC|refine qa ?_ ?_))
   all_goals first
    |(intro i hi;exact PSubs.rfl)
    |exact PSub.nilL e1
    |(simp;done)
    |skip
   all_goals
    refine Z05 (fun i hi=>by simp only[qK hi];exact PSubs.rfl) (by simp only[qJ (qM _),Nat.sub_self];exact PSubs.rfl)
  have hwl:(isortR ordW (o.writes++W.take k)).length<=o.writes.length+k:=by rw[Z2i,ql,qq];omega
  conv=>whnf
  refine⟨fun h=>?_,fun h=>?_⟩<;>(try simp only[Q0,Q1,Q2,Q3,Q4,Q5,Q6,Q7,Q8,reduceCtorEq]at h)<;>(conv=>whnf)
  ·have hk2:k<W.length:=by omega
   repeat(any_goals((first|refine .inl ⟨_,Z36 (isortR ordW (o.writes++W.take k)) (W.getD k default) (by omega),?_⟩|refine QI ?_|refine .inl ⟨wrap64 (by omega),?_⟩)<;>conv=>whnf))
   refine⟨k+1,[],by omega,by omega,?_⟩;rw[Z09 hk2,<-List.append_assoc,Z2y (o.writes++W.take k)]
   conv=>whnf
   (repeat'(first|exact QC|refine qa ?_ ?_))
   all_goals(intro i hi;exact PSubs.rfl)
  have e:k=W.length:=by omega
  subst e;rw[List.take_length]
  conv=>whnf
  refine⟨[(1,501)],?_⟩
  conv=>whnf
  (repeat'(first|exact QC|refine qa ?_ ?_))
  all_goals(intro i hi;exact PSubs.rfl)
 have e1:=k0 (by assumption) (by assumption) (by assumption);have e2:=km (by assumption);have e3:=kn h;subst e2;subst e3;simp only[List.append_nil];have hW0:W.length=0:=by rw[e1];rfl
 refine loop_k (ι:=Nat) [6,12] [12] (fun k=>k<=W.length) (fun k=>W.length-k) 0 (fun k=>[(15,.pv (roL 10 cWrite W)),(16,.pv (vint k))]) (fun k=>[(6,.box [.pv (roL 10 cWrite (isortR ordW (o.writes++W.take k))),.pv (roL 10 cWrite (isortR ordW (o.modes))),.own 900001,.own 501]),(900001,rowL 1 cstr o.ran),(900002,.gone),(501,rowL 1 cstr (o.notes))]) [(501,900002)] (qe _) ?_ (fun k hk=>?_)
 ·rw[List.take_zero,List.append_nil]
  try rw[hput]
  conv=>whnf
  (repeat'(first|exact QC|refine qa ?_ ?_))
  all_goals first
   |(intro i hi;exact PSubs.rfl)
   |exact PSub.nilL e1
   |(simp;done)
   |skip
  all_goals
   refine Z05 (fun i hi=>by simp only[qK hi];exact PSubs.rfl) (by simp only[qJ (qM _),Nat.sub_self];exact PSubs.rfl)
 have hwl:(isortR ordW (o.writes++W.take k)).length<=o.writes.length+k:=by rw[Z2i,ql,qq];omega
 conv=>whnf
 refine⟨fun h=>?_,fun h=>?_⟩<;>(try simp only[Q0,Q1,Q2,Q3,Q4,Q5,Q6,Q7,Q8,reduceCtorEq]at h)<;>(conv=>whnf)
 ·have hk2:k<W.length:=by omega
  repeat(any_goals((first|refine .inl ⟨_,Z36 (isortR ordW (o.writes++W.take k)) (W.getD k default) (by omega),?_⟩|refine QI ?_|refine .inl ⟨wrap64 (by omega),?_⟩)<;>conv=>whnf))
  refine⟨k+1,[],by omega,by omega,?_⟩;rw[Z09 hk2,<-List.append_assoc,Z2y (o.writes++W.take k)]
  conv=>whnf
  (repeat'(first|exact QC|refine qa ?_ ?_))
  all_goals(intro i hi;exact PSubs.rfl)
 have e:k=W.length:=by omega
 subst e;rw[List.take_length]
 conv=>whnf
 refine⟨[(1,501)],?_⟩
 conv=>whnf
 (repeat'(first|exact QC|refine qa ?_ ?_))
 all_goals(intro i hi;exact PSubs.rfl)
def refB(w m:List Write)(a b:Nat):AObj:=.box [.pv (roL 10 cWrite (isortR ordW w)),.pv (roL 10 cWrite (isortR ordW m)),.own a,.own b]
theorem Zta(s:Sco)(sc:List Scene)(v:Vw)(o:Out)(r:Rul)(j:Nat):rawJ s sc v o r (j+1)=⟨(rawJ s sc v o r j).writes++stpW s sc v (cauR r) (r.steps.getD j default) j,(rawJ s sc v o r j).modes++stpM (cauR r) (r.steps.getD j default) j,(rawJ s sc v o r j).ran,(rawJ s sc v o r j).notes++stpN (cauR r) (r.steps.getD j default)⟩:=by
 unfold rawJ;rw[Zaw,Zau,Zav];simp only[List.append_assoc]
set_option maxHeartbeats 4000000 in
theorem Zlr(s:Sco)(sc:List Scene)(v:Vw)(p:Hap)(l:List Rul)(hs:smallS s)(hsc:smallL sc)(hsi:∀i,i<sc.length->smallL (sc.getD i default).items)(hv:smallV2 v)(hp:smallHp p) :
  AC Tryz.prog 12 [.pv (.agg (cSco s)),.pv (roL 2 cSce sc),.pv (roL 15 cRul l),.pv (.agg (cVw v)),.pv (.agg (cHap p))] [] (.pv (.tup [.agg (cOut (runR s sc v p l)),vint (runE s l)])) []:=by
 refine AC.of_awp (T:=T) T_ok hm Tryz.call12 Tryz.func12 rfl rfl rfl ?_
 conv=>whnf
 repeat(any_goals((first|refine⟨QT ?_,QF ?_⟩<;>intro h<;>(try simp only[Q0,Q1,Q2,Q3,Q4,Q5,Q6,Q7,Q8,reduceCtorEq]at h)|refine .inl ⟨_,Zl5 s hs,?_⟩|refine .inl ⟨_,Zl8 s l hs,?_⟩)<;>conv=>whnf))
 ·rw[runR,qJ (by rw[runE,qK h];exact h),runE,qK h];refine⟨?_,?_⟩<;>(conv=>whnf)
  ·exact QE
  exact QE
 ·have e0:runE s l=(rulesE s l).2:=by rw[runE,qJ (fun x=>x (by assumption))]
  rw[runR,qJ (by rw[e0];exact h),e0];refine⟨?_,?_⟩<;>(conv=>whnf)
  ·exact QE
  exact QE
 have he:runE s l=0:=Z5x (by assumption) h;have ok:=(Z2n s l).1 h;have h40:=ok.1;have hok:∀k,k<l.length->ruleE s (l.getD k default)=0:=fun k hk=>ok.2.1 _ (by rw[Z03 _ _ hk];exact qE _)
 rw[runR,qK he,Zax,he];have hlen:=Z7i (s:=s) (sc:=sc) (v:=v) (h:=p) ok.2.1;have hno:=fun k hk=>Zao (s:=s) (sc:=sc) (v:=v) (h:=p) (l:=l) (k:=k) hk
 have hyes:=fun k hk=>Zap (s:=s) (sc:=sc) (v:=v) (h:=p) (l:=l) (k:=k) hk
 have h00:rawK s sc v p l 0=noOut:=by unfold rawK rawO ranL allW allM allN;simp;rfl
 generalize rawK s sc v p l=R at *;refine loop_k (ι:=Nat) [1,2,5,8,9,10,15] [5,8,9,10] (fun k=>k<=l.length) (fun k=>l.length-k) 0 (fun k=>[(16,.pv (vint k))]) (fun k=>[(15,refB (R k).writes (R k).modes 503 504),(503,rowL 1 cstr (R k).ran),(504,rowL 1 cstr (R k).notes)]) [] (qe _) ?_ (fun k hk=>?_)
 ·rw[h00]
  conv=>whnf
  (repeat'(first|exact QC|refine qa ?_ ?_))
  all_goals first
   |(intro j hj;exact absurd hj (by simp[noOut]))
   |exact PSub.nilL rfl
   |exact PSub.nil_ro _ _
 have hl0:=hlen k hk;have hlw:=hl0.w;have hlm:=hl0.m;have hlr:=hl0.r;have hln:=hl0.n
 conv=>whnf
 refine⟨fun h=>?_,fun h=>?_⟩<;>(try simp only[Q0,Q1,Q2,Q3,Q4,Q5,Q6,Q7,Q8,reduceCtorEq]at h)<;>(conv=>whnf)
 ·have hk2:k<l.length:=by omega
  have hr:=hok k hk2;have hlens:=Z5w (Z1f hr).1;replace hno:=hno k hk2;replace hyes:=hyes k hk2;have hb:∀b,ranB v p (l.getD k default)=b↔(anyB (l.getD k default) p&&truE v (l.getD k default).cond)=b:=fun b=>Iff.rfl
  generalize R k=o at *
  repeat(any_goals((first|refine⟨QT ?_,QF ?_⟩<;>intro h<;>(try simp only[Q0,Q1,Q2,Q3,Q4,Q5,Q6,Q7,Q8,reduceCtorEq]at h)|refine .inl ⟨_,Zli (l.getD k default) p (Zb6 (by omega)) hp,?_⟩|refine .inl ⟨_,Zld v (l.getD k default).cond hv,?_⟩|refine QI ?_|refine .inl ⟨wrap64 (by omega),?_⟩)<;>conv=>whnf))
  ·refine⟨k+1,[],by omega,by omega,?_⟩;rw[hno ((hb false).2 (by rw[h];rfl))]
   conv=>whnf
   (repeat'(first|exact QC|refine qa ?_ ?_))
   all_goals(intro j hj;exact PSubs.rfl)
  ·refine⟨k+1,[],by omega,by omega,?_⟩;rw[hno ((hb false).2 (by rw[h,Bool.and_false]))]
   conv=>whnf
   (repeat'(first|exact QC|refine qa ?_ ?_))
   all_goals(intro j hj;exact PSubs.rfl)
  replace hyes:=hyes ((hb true).2 (by rw[h,Bool.and_true];assumption));have hnl:(l.getD k default).steps.length<=8:=hlens.2;have hj0:rawJ s sc v o (l.getD k default) 0=⟨o.writes,o.modes,o.ran ++ [(l.getD k default).name],o.notes⟩:=by simp[rawJ,rulW,rulM,rulN]
  refine loop_k (ι:=Nat) [1,2,5,8,9,10,15,16,17] [5,8,9,10,17] (fun j=>j<=(l.getD k default).steps.length) (fun j=>(l.getD k default).steps.length-j) 0 (fun j=>[(18,.pv (vint j))]) (fun j=>[(15,refB (rawJ s sc v o (l.getD k default) j).writes (rawJ s sc v o (l.getD k default) j).modes 513 514),(513,rowL 1 cstr (rawJ s sc v o (l.getD k default) j).ran),(514,rowL 1 cstr (rawJ s sc v o (l.getD k default) j).notes)]) [(513,61),(514,504)] (qe _) ?_ (fun j hj=>?_)
  ·rw[hj0]
   conv=>whnf
   (repeat'(first|exact QC|refine qa ?_ ?_))
   all_goals first
    |(intro j hj;exact PSubs.rfl)
    |(simp;done)
    |skip
   all_goals
    refine Z05 (fun i hi=>by simp only[qK hi];exact PSubs.rfl) (by simp only[qJ (qM _),Nat.sub_self];exact PSubs.rfl)
  have hL:=Zan (sc:=sc) (v:=v) (j:=j) hl0 hr hj;have hLw:=hL.w;have hLm:=hL.m;have hLn:=hL.n
  conv=>whnf
  refine⟨fun h=>?_,fun h=>?_⟩<;>(try simp only[Q0,Q1,Q2,Q3,Q4,Q5,Q6,Q7,Q8,reduceCtorEq]at h)<;>(conv=>whnf)
  ·have hj2:j<(l.getD k default).steps.length:=by omega
   have hx:=(Z1f hr).2.2.2 j hj2;have hz:=Zih (Z1f hr).1 hj2;have eJ:=Zta s sc v o (l.getD k default) j;have hsw:=Zij (sc:=sc) (v:=v) (c:=cauR (l.getD k default)) (i:=j) hx
   repeat(any_goals((first|refine .inr (.inr (.inr (.inr ⟨[(900001,513),(900002,514)],[(1,701)],_,_,_,(Zls s sc v (rawJ s sc v o (l.getD k default) j) (l.getD k default) j hs hsc hsi hv hj2 (by omega) (by omega) (by omega) (by have:=hz.1;omega) (fun h=>by have:=hz.2 h;omega)),rfl,?_⟩)))|refine .inl ⟨wrap64 (by omega),?_⟩)<;>conv=>whnf))
   refine⟨j+1,[(514,701)],by omega,by omega,?_⟩;rw[eJ]
   conv=>whnf
   (repeat'(first|exact QC|refine qa ?_ ?_))
   all_goals(intro j hj;exact PSubs.rfl)
  have e:j=(l.getD k default).steps.length:=by omega
  rw[<-e]at hyes
  repeat(any_goals((first|refine .inl ⟨wrap64 (by omega),?_⟩)<;>conv=>whnf))
  refine⟨k+1,[(503,513),(504,514)],by omega,by omega,?_⟩;rw[hyes]
  conv=>whnf
  (repeat'(first|exact QC|refine qa ?_ ?_))
  all_goals(intro j hj;exact PSubs.rfl)
 have e:k=l.length:=by omega
 subst e;generalize R l.length=o at *
 repeat(any_goals((first|refine .inl ⟨_,Z51 o.ran (by omega),?_⟩|refine .inl ⟨_,Z51 o.notes (by omega),?_⟩)<;>conv=>whnf))
 refine⟨?_,?_⟩<;>(conv=>whnf)
 ·exact QE
 exact QE
open Go.Proofs Go.RowKit
section
variable {H:Type} {enc:TypeId×Value->H} {w:World} {bulk:DataW H->Nat}
theorem Zsh(hB:BulkOk bulk):Opens enc Tryz.prog w bulk BB 310 cSpn (fun _=>True):=
 (Opens.struct hB Tryz.underlying310 (by kernel_rfl) (.cons (size:=1) rfl (by kernel_rfl) op_int (.cons (size:=1) rfl (by kernel_rfl) op_int .nil))).imp (fun x=>⟨x.1,x.2.1⟩) (fun _=>rfl) (fun _ _=>trivial)
theorem Zsw(hB:BulkOk bulk):Opens enc Tryz.prog w bulk BB 103 (fun l:List Spn=>[roL 2 cSpn l]) smallL:=
 (Opens.slice hB Tryz.underlying103 (by kernel_rfl) (by decide) (Zsh hB)).imp id (fun _=>rfl) (fun _ h=>h.1)
theorem Zsd(hB:BulkOk bulk):Opens enc Tryz.prog w bulk BB 105 cMem (fun _=>True):=
 (Opens.struct hB Tryz.underlying105 (by kernel_rfl) (.cons (size:=1) rfl (by kernel_rfl) (Z0k hB) (.cons (size:=1) rfl (by kernel_rfl) op_int (.cons (size:=1) rfl (by kernel_rfl) (Zsw hB) (.cons (size:=1) rfl (by kernel_rfl) (Z2k hB) (.cons (size:=1) rfl (by kernel_rfl) Z5q .nil)))))).imp
  (fun x=>⟨x.1,x.2.1,x.2.2.1,x.2.2.2.1,x.2.2.2.2.1⟩) (fun _=>rfl) (fun _ _=>trivial)
theorem Zst(hB:BulkOk bulk):Opens enc Tryz.prog w bulk BB 32 (fun l:List Mem=>[roL 5 cMem l]) smallL:=
 (Opens.slice hB Tryz.underlying32 (by kernel_rfl) (by decide) (Zsd hB)).imp id (fun _=>rfl) (fun _ h=>h.1)
theorem Zsk(hB:BulkOk bulk):Opens enc Tryz.prog w bulk BB 34 cVw smallV2:=
 (Opens.struct hB Tryz.underlying34 (by kernel_rfl) (.cons (size:=1) rfl (by kernel_rfl) (Zgm hB) (.cons (size:=1) rfl (by kernel_rfl) (Z0k hB) (.cons (size:=1) rfl (by kernel_rfl) op_int (.cons (size:=1) rfl (by kernel_rfl) (Zst hB) .nil))))).imp
  (fun x=>⟨x.1,x.2.1,x.2.2.1,x.2.2.2.1⟩) (fun _=>rfl) (fun _ h=>⟨h.1.1,h.2.2.2.1⟩)
theorem Zs8(hB:BulkOk bulk):Opens enc Tryz.prog w bulk BB 109 cKey (fun _=>True):=
 (Opens.struct hB Tryz.underlying109 (by kernel_rfl) (.cons (size:=1) rfl (by kernel_rfl) op_int (.cons (size:=1) rfl (by kernel_rfl) (Z0k hB) (.cons (size:=1) rfl (by kernel_rfl) (Z0k hB) .nil)))).imp (fun x=>⟨x.1,x.2.1,x.2.2.1⟩) (fun _=>rfl) (fun _ _=>trivial)
theorem Zsr(hB:BulkOk bulk):Opens enc Tryz.prog w bulk BB 36 (fun l:List Key=>[roL 3 cKey l]) smallL:=
 (Opens.slice hB Tryz.underlying36 (by kernel_rfl) (by decide) (Zs8 hB)).imp id (fun _=>rfl) (fun _ h=>h.1)
theorem Zsa(hB:BulkOk bulk):Opens enc Tryz.prog w bulk BB 38 cHap smallHp:=
 (Opens.struct hB Tryz.underlying38 (by kernel_rfl) (.cons (size:=1) rfl (by kernel_rfl) (Zss hB) (.cons (size:=1) rfl (by kernel_rfl) (Zsr hB) (.cons (size:=1) rfl (by kernel_rfl) op_int (.cons (size:=1) rfl (by kernel_rfl) op_int (.cons (size:=1) rfl (by kernel_rfl) (Z0k hB) (.cons (size:=1) rfl (by kernel_rfl) Z5q (.cons (size:=1) rfl (by kernel_rfl) (Z2k hB) .nil)))))))).imp
  (fun x=>⟨x.1,x.2.1,x.2.2.1,x.2.2.2.1,x.2.2.2.2.1,x.2.2.2.2.2.1,x.2.2.2.2.2.2.1⟩) (fun _=>rfl) (fun _ h=>⟨h.1,h.2.1,h.2.2.2.2.2.2.1⟩)
theorem Zsv(hB:BulkOk bulk):Opens enc Tryz.prog w bulk BB 29 (fun l:List Scene=>[roL 2 cSce l]) smallSc:=
 (Opens.slice hB Tryz.underlying29 (by kernel_rfl) (by decide) (Zsf hB)).imp id (fun _=>rfl) (fun _ h=>⟨h.1,fun i hi=>(h.2 i hi).1⟩)
theorem Zz0(hB:BulkOk bulk)(hS:BulkSum bulk):Opens enc Tryz.prog w bulk BB 40 cRuC smallRuC:=
 (Opens.struct hB Tryz.underlying40 (by kernel_rfl) (.cons (size:=4) rfl (by kernel_rfl) (Zsg hB) (.cons (size:=1) rfl (by kernel_rfl) (Zsv hB) (.cons (size:=1) rfl (by kernel_rfl) (Zsu hB hS) (.cons (size:=4) rfl (by kernel_rfl) (Zsk hB) (.cons (size:=7) rfl (by kernel_rfl) (Zsa hB) .nil)))))).imp
  (fun x=>⟨x.1,x.2.1,x.2.2.1,x.2.2.2.1,x.2.2.2.2.1⟩) (fun _=>rfl) (fun _ h=>⟨h.1,h.2.1,h.2.2.1,h.2.2.2.1,h.2.2.2.2.1⟩)
end
def ruleH(r:Rul):Bool:=decide (12<r.on.length)||decide (12<r.steps.length)||decide (300<sizeE r.cond)||anyN r.steps.length fun i=>decide (300<sizeE (r.steps.getD i default).expr)
def bigC(c:RuC):Bool:=decide (100<c.s.home.clusters.length∨30<c.s.home.devices.length∨30<c.s.modes.length∨300<c.s.scenes.length∨20<c.sc.length∨20<c.l.length∨100<c.v.items.length∨30<c.v.members.length∨50<c.h.changed.length∨50<c.h.events.length∨50<c.h.held.length)
def greatR(c:RuC):Bool:=bigC c ||(anyN c.sc.length fun i=>decide (60<(c.sc.getD i default).items.length))||anyN c.l.length fun i=>ruleH (c.l.getD i default)
set_option maxHeartbeats 4000000 in
theorem Z50(c:RuC)(hc:smallRuC c):AC Tryz.prog 9 [.pv (.agg (cRuC c))] [] (.pv (vbool (greatR c))) []:=by
 have hbig:bigC c=true->greatR c=true:=fun h=>by unfold greatR;rw[h];rfl
 unfold bigC at hbig;rw[Q0]at hbig;have hl:=hc.l.2;refine AC.of_awp (T:=T) T_ok hm Tryz.call9 Tryz.func9 rfl rfl rfl ?_
 conv=>whnf
 repeat(any_goals((first|refine⟨QT ?_,QF ?_⟩<;>intro h<;>(try simp only[Q0,Q1,Q2,Q3,Q4,Q5,Q6,Q7,Q8,reduceCtorEq]at h))<;>conv=>whnf))
 all_goals first
  |(exact PSub.lit_sb (hbig (by omega)).symm)
  |skip
 have hb:bigC c=false:=qG (by omega);have hcut:greatR c=((anyN c.sc.length fun i=>decide (60<(c.sc.getD i default).items.length))||anyN c.l.length fun i=>ruleH (c.l.getD i default)):=by
  unfold greatR;rw[hb,Bool.false_or]
 rw[hcut];clear hcut hb hbig;refine loop_k (ι:=Nat) [1] [1] (fun k=>k<=c.sc.length∧(∀j,j<k->decide (60<(c.sc.getD j default).items.length)=false)) (fun k=>c.sc.length-k) 0 (fun k=>[(3,.pv (vint k))]) (fun _=>[]) [] ⟨qe _,fun j h=>absurd h (by omega)⟩ ?_ (fun k hk=>?_)
 ·exact QD
 obtain⟨hkn,hinv⟩:=hk
 conv=>whnf
 repeat(any_goals((first|refine⟨QT ?_,QF ?_⟩<;>intro h<;>(try simp only[Q0,Q1,Q2,Q3,Q4,Q5,Q6,Q7,Q8,reduceCtorEq]at h)|refine QI ?_|refine .inl ⟨wrap64 (by omega),?_⟩)<;>conv=>whnf))
 ·refine PSub.lit_sb ?_;rw[Z0a (k:=k) (by omega) (qB (by omega)),Bool.true_or]
 ·refine⟨k+1,[],⟨by omega,?_⟩,by first|omega|(dsimp only;omega),?_⟩;rotate_left
  ·exact QD
  intro j hj
  by_cases e:j=k
  ·subst e;exact qG (by omega)
  exact hinv j (by omega)
 have hn0:(anyN c.sc.length fun i=>decide (60<(c.sc.getD i default).items.length))=false:=Z0d fun j hj=>hinv j (by omega)
 rw[hn0,Bool.false_or];clear hinv hn0;refine loop_k (ι:=Nat) [1] [1] (fun k=>k<=c.l.length∧(∀j,j<k->ruleH (c.l.getD j default)=false)) (fun k=>c.l.length-k) 0 (fun k=>[(4,.pv (vint k))]) (fun _=>[]) [] ⟨qe _,fun j h=>absurd h (by omega)⟩ ?_ (fun k hk=>?_)
 ·exact QD
 obtain⟨hkn,hinv⟩:=hk
 conv=>whnf
 refine⟨fun h=>?_,fun h=>?_⟩<;>(try simp only[Q0,Q1,Q2,Q3,Q4,Q5,Q6,Q7,Q8,reduceCtorEq]at h)<;>(conv=>whnf)
 ·have hg:=hl k (by omega)
  repeat(any_goals((first|refine⟨QT ?_,QF ?_⟩<;>intro h<;>(try simp only[Q0,Q1,Q2,Q3,Q4,Q5,Q6,Q7,Q8,reduceCtorEq]at h)|refine .inl ⟨_,Z8d (c.l.getD k default).cond hg.1,?_⟩|refine QI ?_)<;>conv=>whnf))
  ·exact PSub.lit_sb (Z0a (k:=k) (by omega) (by unfold ruleH;rw[qB (show 12<(c.l.getD k default).on.length by omega)];rfl)).symm
  ·exact PSub.lit_sb (Z0a (k:=k) (by omega) (by unfold ruleH;rw[qB (show 12<(c.l.getD k default).steps.length by omega),Bool.or_true];rfl)).symm
  ·exact PSub.lit_sb (Z0a (k:=k) (by omega) (by unfold ruleH;rw[qB (show 300<sizeE (c.l.getD k default).cond by omega),Bool.or_true];rfl)).symm
  have hrg:ruleH (c.l.getD k default)=anyN (c.l.getD k default).steps.length fun i=>decide (300<sizeE ((c.l.getD k default).steps.getD i default).expr):=by
   unfold ruleH;rw[qG (by omega),qG (by omega),qG (by omega)];rfl
  have hinv0:=hinv;have hkn0:=hkn;refine loop_k (ι:=Nat) [1,4,5] [1,5] (fun q=>q<=(c.l.getD k default).steps.length∧∀j,j<q->decide (300<sizeE ((c.l.getD k default).steps.getD j default).expr)=false) (fun q=>(c.l.getD k default).steps.length-q) 0 (fun q=>[(6,.pv (vint q))]) (fun _=>[]) [] ⟨qe _,fun j h=>absurd h (by omega)⟩ ?_ (fun q hk=>?_)
  ·exact QD
  obtain⟨hkn,hinv⟩:=hk
  conv=>whnf
  refine⟨fun h=>?_,fun h=>?_⟩<;>(try simp only[Q0,Q1,Q2,Q3,Q4,Q5,Q6,Q7,Q8,reduceCtorEq]at h)<;>(conv=>whnf)
  ·have hg2:=hg.2 q (by omega)
   repeat(any_goals((first|refine⟨QT ?_,QF ?_⟩<;>intro h<;>(try simp only[Q0,Q1,Q2,Q3,Q4,Q5,Q6,Q7,Q8,reduceCtorEq]at h)|refine .inl ⟨_,Z8d ((c.l.getD k default).steps.getD q default).expr hg2,?_⟩|refine QI ?_|refine .inl ⟨wrap64 (by omega),?_⟩)<;>conv=>whnf))
   ·exact PSub.lit_sb (Z0a (k:=k) (by omega) (by rw[hrg];exact Z0a (k:=q) (by omega) (qB (by omega)))).symm
   refine⟨q+1,[],⟨by omega,?_⟩,by first|omega|(dsimp only;omega),?_⟩;rotate_left
   ·exact QD
   intro j hj
   by_cases e:j=q
   ·subst e;exact qG (by omega)
   exact hinv j (by omega)
  repeat(any_goals((first|refine .inl ⟨wrap64 (by omega),?_⟩)<;>conv=>whnf))
  refine⟨k+1,[],⟨by omega,?_⟩,by first|omega|(dsimp only;omega),?_⟩;rotate_left
  ·exact QD
  intro j hj
  by_cases e:j=k
  ·subst e;rw[hrg];exact Z0d fun i hi=>hinv i (by omega)
  exact hinv0 j (by omega)
 exact PSub.lit_sb (Z0d fun j hj=>hinv j (by omega)).symm
theorem Zxi(c:RuC)(hc:smallRuC c):AC Tryz.prog 3 [.pv (.agg (cRuC c))] [] (.pv (vbool true)) []:=by
 have r1:=Z2a c.s c.sc c.v c.h c.l hc.s hc.sc.1 hc.sc.2 hc.v hc.h;have r2:=Zlr c.s c.sc c.v c.h c.l hc.s hc.sc.1 hc.sc.2 hc.v hc.h;have r3:=Z54 (runR c.s c.sc c.v c.h c.l) (runR c.s c.sc c.v c.h c.l) Z5y;generalize runR c.s c.sc c.v c.h c.l=o at *;generalize runE c.s c.l=e at *;refine AC.of_awp (T:=T) T_ok hm Tryz.call3 Tryz.func3 rfl rfl rfl ?_
 conv=>whnf
 repeat(any_goals((first|refine⟨QT ?_,QF ?_⟩<;>intro h<;>(try simp only[Q0,Q1,Q2,Q3,Q4,Q5,Q6,Q7,Q8,reduceCtorEq]at h)|refine .inl ⟨_,Z50 c hc,?_⟩|refine .inl ⟨_,Z2w,?_⟩|refine .inl ⟨_,r1,?_⟩|refine .inl ⟨_,r2,?_⟩|refine .inl ⟨_,r3,?_⟩)<;>conv=>whnf))
 all_goals first
  |exact PSub.rfl
  |exact PSub.sb (qB rfl)
  |exact PSub.lit_sb rfl
  |(exfalso;exact h rfl)
  |(exfalso;simp at h;done)
end Go.Abs
