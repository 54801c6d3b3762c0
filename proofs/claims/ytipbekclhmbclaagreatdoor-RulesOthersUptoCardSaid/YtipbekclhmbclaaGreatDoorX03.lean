/- YtipbekclhmbclaaGreatDoorX03: walks and contracts. -/
import Derived.Test.YtipbekclhmbclaaGreatDoorX02
import Derived.IntWalk
import Derived.ChangeArms
import Derived.ChangeOld
import Derived.DataReads

set_option linter.unusedVariables false
set_option linter.unusedSimpArgs false
set_option linter.unusedSectionVars false

namespace Go.Abs
open Go.RowKit
variable [Globals]
def maskOf(acc:List Nat):List Edge->Nat
 | []=>0
 |e::es=>match Region.binds .any e with
  |true=>(2 ^ e.on ||| acc.getD e.on 0) ||| maskOf acc es
  |false=>maskOf acc es
def befL:List Oper->List Nat->List Nat
 | [],acc=>acc
 |o::os,acc=>befL os (acc ++ [maskOf acc o.after.toList])
def opTmps(ops:List Oper)(o:Oper):List Nat:=
 (o.op.operands.toList.filterMap fun | .tmp t=>some t|_=>none) ++
 (match o.guard with
  |some (g,_)=>((ops[g]?).bind (·.dst)).toList
  |none=>[])
def backEdges:Nat->List Oper->Bool
 |_,[]=>true
 |i,o::os=>(o.after.toList.all fun e=>!Region.binds .any e||Nat.blt e.on i)&&backEdges (i+1) os
def tmpConf(ops:List Oper)(x y:Oper):Bool:=
 (match x.dst with
  |some d=>(opTmps ops y).contains d ||(match y.dst with|some e=>Nat.beq d e|none=>false)
  |none=>false) ||
 (match y.dst with
  |some d=>(opTmps ops x).contains d
  |none=>false)
def pairsOk{α:Type}(conf:α->α->Bool)(bef:List Nat):Nat->List α->List α->Bool
 |_,_,[]=>true
 |j,pre,y::ys=>((pre.zipIdx).all fun x=>!conf x.1 y ||(bef.getD j 0).testBit x.2)&&pairsOk conf bef (j+1) (pre ++ [y]) ys
def drawOk(ops:List Oper):Bool:=backEdges 0 ops&&pairsOk (tmpConf ops) (befL ops []) 0 [] ops
structure Touch where
 looks:List Nat
 writes:List Nat
def objConf(x y:Touch):Bool:=x.writes.any (fun l=>y.looks.contains l||y.writes.contains l)||y.writes.any (fun l=>x.looks.contains l)
def logOk(ops:List Oper)(log:List Touch):Bool:=pairsOk objConf (befL ops []) 0 [] log
theorem Zaf{α:Type}{conf:α->α->Bool}{bef:List Nat}:∀ {ys:List α} {j:Nat} {pre:List α},pre.length=j->pairsOk conf bef j pre ys=true->
  ∀(i k:Nat) (x y:α),i<k->(pre++ys)[i]? = some x->(pre++ys)[k]? = some y->j<=k->conf x y=true->(bef.getD k 0).testBit i=true
 | [],j,pre,hj,_,i,k,x,y,hik,hx,hy,hk,_=>by
  have:=(qf.1 hy).1;simp at this;omega
 |z::ys,j,pre,hj,h,i,k,x,y,hik,hx,hy,hk,hc=>by
  simp only[pairsOk,qc]at h
  by_cases e:k=j
  ·subst e;have hz:y=z:=by
    rw[qv (by omega)]at hy;simp[hj]at hy;exact hy.symm
   subst hz;have hx':pre[i]? = some x:=by rwa[qr (by omega)]at hx
   have:=qz.1 h.1 (x,i) (by rw[List.mem_zipIdx_iff_getElem?];exact hx');simpa[hc]using this
  have:=Zaf (pre:=pre ++ [z]) (ys:=ys) (j:=j+1) (by simp[hj]) h.2 i k x y hik (by simpa using hx) (by simpa using hy) (by omega) hc;exact this
theorem Za9{acc:List Nat}:∀ {es:List Edge} {k:Nat},(maskOf acc es).testBit k=true->∃e∈es,Region.binds .any e=true∧(e.on=k∨(acc.getD e.on 0).testBit k=true)
 | [],k,h=>by simp[maskOf]at h
 |e::es,k,h=>by
  unfold maskOf at h
  split at h
  ·rename_i hb;simp only[Nat.testBit_or,Bool.or_eq_true,Nat.testBit_two_pow]at h;rcases h with(h|h)|h
   ·exact⟨e,by simp,hb,.inl (by simpa using h)⟩
   ·exact⟨e,by simp,hb,.inr h⟩
   obtain⟨e',h1,h2,h3⟩:=Za9 h;exact⟨e',by simp[h1],h2,h3⟩
  obtain⟨e',h1,h2,h3⟩:=Za9 h;exact⟨e',by simp[h1],h2,h3⟩
theorem Z94{ops:List Oper}{D:Nat->Prop}(hD:∀j o,D j->ops[j]? = some o->∀e∈o.after.toList,Region.binds .any e=true->D e.on) :
  ∀(os:List Oper) (pre:List Oper) (acc:List Nat),ops=pre++os->acc.length=pre.length->(∀j,j<pre.length->(∀o,ops[j]? = some o->∀e∈o.after.toList,Region.binds .any e=true->D e.on)->∀k,(acc.getD j 0).testBit k=true->D k)->
   ∀i o,ops[i]? = some o->(∀e∈o.after.toList,Region.binds .any e=true->D e.on)->∀k,((befL os acc).getD i 0).testBit k=true->D k
 | [],pre,acc,he,hl,hacc,i,o,ho,hi,k,hk=>by
  have hlt:=(qf.1 ho).1;rw[he]at hlt;exact hacc i (by simpa using hlt) (fun o' ho'=>by rw[ho]at ho';cases ho';exact hi) k hk
 |x::os,pre,acc,he,hl,hacc,i,o,ho,hi,k,hk=>by
  refine Z94 hD os (pre ++ [x]) (acc ++ [maskOf acc x.after.toList]) (by rw[he];simp) (by simp[hl]) (fun j hj hjo k hk=>?_) i o ho hi k hk
  by_cases e:j=pre.length
  ·subst e;have hx:ops[pre.length]? = some x:=by rw[he];simp
   rw[qI,qv (by omega)]at hk;simp[hl]at hk;obtain⟨ed,h1,h2,h3⟩:=Za9 hk;have hon:=hjo x hx ed h1 h2;rcases h3 with h3|h3
   ·exact h3▸hon
   rcases Nat.lt_or_ge ed.on pre.length with hlt|hge
   ·exact hacc ed.on hlt (fun o' ho'=>hD ed.on o' hon ho') k h3
   simp[qI,List.getElem?_eq_none (show acc.length<=ed.on by omega)]at h3
  have hj':j<pre.length:=by simp at hj;omega
  rw[qI,qr (by omega),<-qI]at hk;exact hacc j hj' hjo k hk
def vT(dst:Nat->Option Nat)(V:Nat->AV)(t:Nat)(x0:AV)(sel:Nat->Bool):Nat->AV
 |0=>x0
 |n+1=>if sel n=true∧dst n=some t then V n else vT dst V t x0 sel n
def vO(U:Nat->Upd)(l:Nat)(x0:Option AObj)(sel:Nat->Bool):Nat->Option AObj
 |0=>x0
 |n+1=>if sel n=true∧getO (U n) l≠none then getO (U n) l else vO U l x0 sel n
theorem vT_eq {dst : Nat → Option Nat} {V : Nat → AV} {t : Nat} {x0 : AV} {sel sel' : Nat → Bool} {i : Nat} : ∀ {n : Nat}, i ≤ n → (∀ j, j < n → dst j = some t → (sel j = true ↔ (j < i ∧ sel' j = true))) → vT dst V t x0 sel n = vT dst V t x0 sel' i
  | 0, hi, _ => by
    have : i = 0 := by omega
    subst this; rfl
  | n + 1, hi, h => by
    by_cases e : i = n + 1
    · subst e
      simp only [vT]
      by_cases hd : dst n = some t
      · have := h n (by omega) hd
        by_cases hs : sel n = true
        · rw [if_pos ⟨hs, hd⟩, if_pos ⟨(this.1 hs).2, hd⟩]
        · rw [if_neg (fun hh => hs hh.1), if_neg (fun hh => hs (this.2 ⟨by omega, hh.1⟩))]
          exact vT_eq (Nat.le_refl n) (fun j hj hdj => by have := h j (by omega) hdj; constructor
                                                          · intro hh; exact ⟨hj, (this.1 hh).2⟩
                                                          · intro hh; exact this.2 ⟨by omega, hh.2⟩)
      · rw [if_neg (fun hh => hd hh.2), if_neg (fun hh => hd hh.2)]
        exact vT_eq (Nat.le_refl n) (fun j hj hdj => by have := h j (by omega) hdj; constructor
                                                        · intro hh; exact ⟨hj, (this.1 hh).2⟩
                                                        · intro hh; exact this.2 ⟨by omega, hh.2⟩)
    · simp only [vT]
      rw [if_neg]
      · exact vT_eq (by omega) (fun j hj hdj => h j (by omega) hdj)
      · rintro ⟨hs, hd⟩
        have := (h n (by omega) hd).1 hs
        omega
theorem vO_eq {U : Nat → Upd} {l : Nat} {x0 : Option AObj} {sel sel' : Nat → Bool} {i : Nat} : ∀ {n : Nat}, i ≤ n → (∀ j, j < n → getO (U j) l ≠ none → (sel j = true ↔ (j < i ∧ sel' j = true))) → vO U l x0 sel n = vO U l x0 sel' i
  | 0, hi, _ => by
    have : i = 0 := by omega
    subst this; rfl
  | n + 1, hi, h => by
    by_cases e : i = n + 1
    · subst e
      simp only [vO]
      by_cases hd : getO (U n) l ≠ none
      · have := h n (by omega) hd
        by_cases hs : sel n = true
        · rw [if_pos ⟨hs, hd⟩, if_pos ⟨(this.1 hs).2, hd⟩]
        · rw [if_neg (fun hh => hs hh.1), if_neg (fun hh => hs (this.2 ⟨by omega, hh.1⟩))]
          exact vO_eq (Nat.le_refl n) (fun j hj hdj => by have := h j (by omega) hdj; constructor
                                                          · intro hh; exact ⟨hj, (this.1 hh).2⟩
                                                          · intro hh; exact this.2 ⟨by omega, hh.2⟩)
      · rw [if_neg (fun hh => hd hh.2), if_neg (fun hh => hd hh.2)]
        exact vO_eq (Nat.le_refl n) (fun j hj hdj => by have := h j (by omega) hdj; constructor
                                                        · intro hh; exact ⟨hj, (this.1 hh).2⟩
                                                        · intro hh; exact this.2 ⟨by omega, hh.2⟩)
    · simp only [vO]
      rw [if_neg]
      · exact vO_eq (by omega) (fun j hj hdj => h j (by omega) hdj)
      · rintro ⟨hs, hd⟩
        have := (h n (by omega) hd).1 hs
        omega
theorem vT_add{dst:Nat->Option Nat}{V:Nat->AV}{t:Nat}{x0:AV}{sel sel':Nat->Bool}{i:Nat}(hsel:∀j,sel' j=(sel j||j == i))(hi:sel i=false) :
  ∀ {n:Nat},(∀j,j<n->i<j->dst i=some t->dst j=some t->sel j=false)->vT dst V t x0 sel' n=if i<n∧dst i=some t then V i else vT dst V t x0 sel n
 |0,_=>by simp[vT]
 |n+1,h=>by
  have ih:=vT_add (V:=V) (x0:=x0) hsel hi (n:=n) (fun j hj=>h j (by omega));simp only[vT,hsel]
  by_cases e:n=i
  ·subst e
   by_cases hd:dst n=some t
   ·simp[hd]
   simp[hd,ih]
  have e':(n == i)=false:=by simpa using e
  rw[e',Bool.or_false]
  by_cases hs:sel n=true∧dst n=some t
  ·rw[qK hs]
   by_cases hlt:i<n+1∧dst i=some t
   ·have:=h n (by omega) (by omega) hlt.2 hs.2;rw[this]at hs;simp at hs
   rw[qJ hlt,qK hs]
  rw[qJ hs,ih]
  by_cases hlt:i<n∧dst i=some t
  ·rw[qK hlt,qK ⟨by omega,hlt.2⟩]
  rw[qJ hlt,qJ (fun hh=>hlt ⟨by omega,hh.2⟩),qJ hs]
theorem vO_add{U:Nat->Upd}{l:Nat}{x0:Option AObj}{sel sel':Nat->Bool}{i:Nat}(hsel:∀j,sel' j=(sel j||j == i))(hi:sel i=false) :
  ∀ {n:Nat},(∀j,j<n->i<j->getO (U i) l≠none->getO (U j) l≠none->sel j=false)->vO U l x0 sel' n=if i<n∧getO (U i) l≠none then getO (U i) l else vO U l x0 sel n
 |0,_=>by simp[vO]
 |n+1,h=>by
  have ih:=vO_add (x0:=x0) hsel hi (n:=n) (fun j hj=>h j (by omega));simp only[vO,hsel]
  by_cases e:n=i
  ·subst e
   by_cases hd:getO (U n) l≠none
   ·rw[qK ⟨by simp,hd⟩,qK ⟨by omega,hd⟩]
   rw[qJ (fun hh=>hd hh.2),qJ (fun hh=>hd hh.2),qJ (fun hh=>hd hh.2),ih,qJ (fun hh=>hd hh.2)]
  have e':(n == i)=false:=by simpa using e
  rw[e',Bool.or_false]
  by_cases hs:sel n=true∧getO (U n) l≠none
  ·rw[qK hs]
   by_cases hlt:i<n+1∧getO (U i) l≠none
   ·have:=h n (by omega) (by omega) hlt.2 hs.2;rw[this]at hs;simp at hs
   rw[qJ hlt,qK hs]
  rw[qJ hs,ih]
  by_cases hlt:i<n∧getO (U i) l≠none
  ·rw[qK hlt,qK ⟨by omega,hlt.2⟩]
  rw[qJ hlt,qJ (fun hh=>hlt ⟨by omega,hh.2⟩),qJ hs]
theorem Zbh{dst:Nat->Option Nat}{V:Nat->AV}{t:Nat}{x0:AV}:∀ {n:Nat},vT dst V t x0 (fun _=>true) (n+1)=vT (fun j=>dst (j+1)) (fun j=>V (j+1)) t (if dst 0=some t then V 0 else x0) (fun _=>true) n
 |0=>by simp[vT]
 |n+1=>by rw[vT,Zbh (n:=n)];rfl
theorem Zbg{U:Nat->Upd}{l:Nat}{x0:Option AObj}:∀ {n:Nat},vO U l x0 (fun _=>true) (n+1)=vO (fun j=>U (j+1)) l (if getO (U 0) l≠none then getO (U 0) l else x0) (fun _=>true) n
 |0=>by simp[vO]
 |n+1=>by rw[vO,Zbg (n:=n)];rfl
structure AVs (x y:AV):Prop where
 to:∀(P:Program) (w:World) (St M:Nat->Prop) (σ:Sig) (v:Value),AR P w St M σ x v->AR P w St M σ y v
 rf:∀l,l∈refs y->l∈refs x
theorem AVs.rfl{x:AV}:AVs x x:=⟨fun _ _ _ _ _ _ h=>h,fun _ h=>h⟩
def looksL(tm:List (Nat×AV)):List Operand->List Nat
 | []=>[]
 |x::xs=>refs (evO tm x)++looksL tm xs
def deepL(ob:Nat->Option AObj):List Nat->List Nat
 | []=>[]
 |l::ls=>match ob l with
  |some (.box cs)=>l ::(refs.refsL cs++deepL ob ls)
  |_=>l::deepL ob ls
def looksOf(tm:List (Nat×AV))(ob:List (Nat×AObj))(op:Op):List Nat:=match op with
 | .move _=>[]
 | .assign _=>[]
 |op=>deepL (getO ob) (deepL (getO ob) (looksL tm op.operands.toList))
def keysOf(u:Upd):List Nat:=u.map (·.1)
theorem StepN.ice{P:Program}{o:Oper}{ev:Operand->AV}{ob:Nat->Option AObj}{l size n:Nat}{f:Nat->List PV}(h:StepN P o ev ob [(l,.row size n f)] (.own l)):StepN P o ev ob [(l,.gone)] (.pv (.ro size n f)):=by
 have hg:∀k (x:AObj),getO [(l,AObj.gone)] k=some x->k=l∧x = .gone:=by
  intro k x e;rw[Z04]at e
  split at e
  ·rename_i h1;cases e;exact⟨h1.symm,rfl⟩
  ·cases e
 have hl0:getO [(l,AObj.row size n f)] l=some (.row size n f):=by rw[Z04,qK rfl]
 refine⟨fun St M0 σ w ρ hi ha hobj hn hf=>?_,fun k hk=>by simp[refs]at hk,fun i obj e k hk=>by obtain⟨_,rfl⟩:=hg _ _ e;simp[refsO]at hk,fun k obj e=>by
  obtain⟨rfl,rfl⟩:=hg _ _ e;exact⟨(h.lv k _ hl0).1,.inr (.inr rfl)⟩⟩
 have key:∀v' w',(∃σ',Post P St M0 σ w [(l,.row size n f)] (.own l) σ' v' w')->∃σ',Post P St M0 σ w [(l,.gone)] (.pv (.ro size n f)) σ' v' w':=by
  rintro v' w' ⟨σ',p⟩
  have hF:∀b,b<w.heap.size->¬Mof M0 σ b->w'.heap[b]? = w.heap[b]?:=fun b hb hm=>p.ext.block b hb (by rintro ⟨k,loc,_,e,eb⟩;exact hm (.inr ⟨k,loc,e,eb⟩))
  have hob:σ' l≠none->True:=fun _=>trivial
  obtain⟨loc,hloc,hor⟩:=p.obj l _ hl0;have hi':Inv St M0 σ' w':=by
   refine⟨p.sep,?_,fun b hb=>⟨qD (hi.m0 b hb).1 p.ext.size,fun ho=>?_⟩,fun b hb=>⟨qD (hi.st b hb).1 p.ext.size,fun ho=>?_⟩,hi.gl.mono ⟨p.ext.size,hF⟩ fun b hb hm=>?_⟩
   ·rintro b ⟨k,lc,e,eb⟩
    by_cases hk:k=l
    ·subst hk;rw[hloc]at e;cases e;cases hor with
     |row0=>simp[Loc.blk]at eb
     |row size n f b2 cap vs t hb=>simp only[Loc.blk,qw]at eb;subst eb;exact Z0e hb
    ·rw[p.old k (by rw[Z04,qJ (fun x=>hk x.symm)])]at e;exact qD (hi.lt b ⟨k,lc,e,eb⟩) p.ext.size
   ·rcases p.blk b ho with h1|h1
    ·exact(hi.m0 b hb).2 h1
    ·have:=(hi.m0 b hb).1;omega
   ·rcases p.blk b ho with h1|h1
    ·exact(hi.st b hb).2 h1
    ·have:=(hi.st b hb).1;omega
   ·rcases hm with hm|hm
    ·exact .inl hm
    ·rcases p.blk b hm with h1|h1
     ·exact .inr h1
     ·omega
  refine⟨dropL σ' [l],?_,fun k x e=>?_,fun k e=>?_,fun k lc lc' e e'=>?_,(hi'.dropL [l]).sep,fun b hb=>p.blk b (Z1q hb),⟨p.ext.os,p.ext.tape,p.ext.output,p.ext.size,fun b hb hnf=>p.ext.block b hb ?_,p.ext.drawn⟩⟩
  ·have:=Z9p (ob:=fun k=>if k=l then some (.row size n f)else none) (L:=[l]) hi' p.val (fun k hk obj e=>by
    simp only[refs,List.mem_singleton]at hk;subst hk;rw[qK rfl]at e;cases e;exact⟨loc,hloc,hor⟩) (fun k hk _=>by simpa[refs]using hk)
   simpa[frzV]using this
  ·obtain⟨rfl,rfl⟩:=hg _ _ e;show dropL σ' [k] k=none
   simp[dropL]
  ·have hk:k≠l:=by
    intro hk;subst hk;rw[Z04,qK rfl]at e;cases e
   simp only[dropL,List.mem_singleton,qJ hk];exact p.old k (by rw[Z04,qJ (fun x=>hk x.symm)])
  ·exact p.stay k lc lc' e (Z0s e').1
  ·rintro ⟨k,lc,e1,e2,e3⟩
   refine hnf ⟨k,lc,?_,e2,e3⟩;rw[Z04]at e1 ⊢
   split at e1
   ·rename_i hk;rw[qK hk];simp
   ·exact absurd rfl e1
 have hr:=h.runs St M0 σ w ρ hi ha hobj hn (fun k hk=>hf k (by
  rw[Z04]at hk ⊢
  split at hk
  ·rename_i h1;rw[qK h1];simp
  ·exact absurd rfl hk))
 unfold OpRuns at hr ⊢
 split at hr
 ·exact key _ _ hr
 ·exact key _ _ hr
 ·exact hr.mono (by rintro e w2 ⟨v,he,hp⟩;exact⟨v,he,key _ _ hp⟩)
 all_goals exact hr
def forceN(n:Nat)(K:Nat->Prop):Prop:=match n with
 |0=>K 0
 |k+1=>K (k+1)
theorem Zq2{n:Nat}{K:Nat->Prop}:forceN n K=K n:=by cases n<;>rfl
def forceLN:List Nat->(List Nat->Prop)->Prop
 | [],K=>K []
 |x::r,K=>forceN x fun x'=>forceLN r fun r'=>K (x'::r')
theorem Zej:∀ {l:List Nat} {K:List Nat->Prop},forceLN l K=K l
 | [],_=>rfl
 |x::r,K=>by rw[forceLN,Zq2,Zej]
def iceB(op:Op)(v:AV)(u:Upd)(K:AV->Upd->Prop):Prop:=match op with
 | .buildSlice _ n _=>match Nat.beq n 0 with
  |true=>K v u
  |false=>match v with
   | .own l=>match u with
    | [(l',.row size n' f)]=>match Nat.beq l l' with
     |true=>K (.pv (.ro size n' f)) [(l',.gone)]
     |false=>K v u
    |_=>K v u
   |_=>K v u
 |_=>K v u
theorem Zet{P:Program}{o:Oper}{ev:Operand->AV}{ob:Nat->Option AObj}{op:Op}{v:AV}{u:Upd}{K:AV->Upd->Prop}(h:iceB op v u K)(hs:StepN P o ev ob u v):∃v u,K v u∧StepN P o ev ob u v:=by
 unfold iceB at h
 repeat' split at h
 all_goals first
  |exact⟨_,_,h,hs⟩
  |(rename_i hb
    cases qg hb;exact⟨_,_,h,hs.ice⟩)
def opSD(P:Program)(T:Tab)(nt:Nat)(o:Oper)(s:AState)(K:AState->Touch->Prop):Prop:=
 match s with
 |⟨tm,ob⟩=>match o with
  |⟨none,op,ty,pos,after,guard⟩=>aopcN P T ⟨none,op,ty,pos,after,guard⟩ 0 (evO tm) (getO ob) fun v u=>iceB op v u fun v u=>forceLN (looksOf tm ob op) fun ls=>forceLN (keysOf u) fun ks=>nextS nt none ⟨tm,ob⟩ v u fun s'=>K s' ⟨ls,ks⟩
  |⟨some d,op,ty,pos,after,guard⟩=>aopcN P T ⟨some d,op,ty,pos,after,guard⟩ d (evO tm) (getO ob) fun v u=>iceB op v u fun v u=>forceLN (looksOf tm ob op) fun ls=>forceLN (keysOf u) fun ks=>nextS nt (some d) ⟨tm,ob⟩ v u fun s'=>K s' ⟨ls,ks⟩
def arunD(P:Program)(T:Tab)(nt:Nat)(ops:List Oper):List Oper->AState->List Touch->(AState->List Touch->Prop)->Prop
 | [],s,log,K=>K s log
 |o::r,s,log,K=>guardK ops o.guard s fun b s=>match b with
  |true=>opSD P T nt o s fun s to=>arunD P T nt ops r s (log ++ [to]) K
  |false=>nextS nt o.dst s skipV [] fun s=>arunD P T nt ops r s (log ++ [⟨[],[]⟩]) K
structure LexAt (P:Program) (nt:Nat) (ops:Array Oper) (o:Oper) (x:Nat->AV) (ob:Nat->Option AObj) (W:Bool) (V:AV) (U:Upd) (S:AState) (to:Touch):Prop where
 tm:∀t,AVs (x t) (getT S.tm t)
 ob:∀l,getO S.ob l=ob l
 run:W=true->StepN P o (evO S.tm) (getO S.ob) U V
 looks:W=true->to.looks=looksOf S.tm S.ob o.op∧to.writes=keysOf U
 skip:W=false->V=skipV∧U = []
 mv:W=true->∀y,(o.op = .move y∨o.op = .assign y)->V=evO S.tm y∧U = []
 guard:∀tmps:Array Value,(∀t,t∈opTmps ops.toList o->∃P w St M σ,AR P w St M σ (getT S.tm t) (tmps.getD t undef))->Region.wanted o (yielded ops tmps)=W
 dst:∀t,o.dst=some t->t<nt
theorem Zq8{ops:Array Oper}{o:Oper}{s:AState}{K:Bool->AState->Prop}(h:guardK ops.toList o.guard s K) :
  ∃W S,K W S∧(∀t,AVs (getT s.tm t) (getT S.tm t))∧S.ob=s.ob∧
   (∀tmps:Array Value,(∀t,t∈opTmps ops.toList o->∃P w St M σ,AR P w St M σ (getT S.tm t) (tmps.getD t undef))->Region.wanted o (yielded ops tmps)=W):=by
 unfold guardK at h
 split at h
 ·rename_i hg;exact⟨true,s,h,fun t=>.rfl,rfl,fun tmps _=>by simp[Region.wanted,hg]⟩
 rename_i j want hg
 split at h
 ·rename_i oj hj
  split at h
  ·rename_i t ht;obtain⟨tm,ob⟩:=s;simp only at h;have hj':ops[j]? = some oj:=by simpa using hj
   have hmem:t∈opTmps ops.toList o:=by simp[opTmps,hg,hj',ht]
   have hy:∀(tmps:Array Value) b,tmps.getD t undef = .bool b->yielded ops tmps j=some b:=by
    intro tmps b hb;have hlt:t<tmps.size:=by
     rcases Nat.lt_or_ge t tmps.size with h1|h1
     ·exact h1
     simp[Array.getD,Nat.not_lt.2 h1,undef]at hb
    have:tmps[t]? = some (.bool b):=by
     simp[Array.getD,hlt]at hb;simp[hlt,hb]
    simp[yielded,hj',ht,this]
   have lit:∀(b:Bool) (tm':List (Nat×AV)) (W:Bool),getT tm' t = .pv (.val (.bool b))->W=(b == want)->∀tmps:Array Value,(∀t,t∈opTmps ops.toList o->∃P w St M σ,AR P w St M σ (getT tm' t) (tmps.getD t undef))->Region.wanted o (yielded ops tmps)=W:=by
    intro b tm' W hb hW tmps hA;obtain⟨P,w,St,M,σ,h1⟩:=hA t hmem;rw[hb]at h1;have h2:=hy tmps b (pr_val (arg_pv h1));simp only[Region.wanted,hg,h2,hW];cases b<;>cases want<;>rfl
   have sbv:∀(b:Bool),getT tm t = .pv (.sb b)->∀t',AVs (getT tm t') (getT ((t,.pv (.val (.bool b)))::tm) t'):=by
    intro b hb t';rw[Z0m]
    by_cases e:t=t'
    ·subst e;rw[qK rfl,hb];exact⟨fun P w St M σ v hv=>by have:=pr_sb (arg_pv hv);subst this;exact .pv _ _ (.val _),fun l hl=>by simp[refs]at hl⟩
    rw[qJ e];exact .rfl
   split at h
   ·rename_i vs hb;refine⟨false,⟨tm,ob⟩,h,fun t=>.rfl,rfl,fun tmps hA=>?_⟩;obtain⟨P,w,St,M,σ,h1⟩:=hA t hmem;rw[show getT tm t = .pv (.val (.tuple vs))from hb]at h1;have hv:=pr_val (arg_pv h1);have h2:yielded ops tmps j=none:=by
     have h3:tmps[t]? = none∨tmps[t]? = some (.tuple vs):=by
      rcases Nat.lt_or_ge t tmps.size with h4|h4
      ·right;simp[Array.getD,h4]at hv;simp[h4,hv]
      left;simp[h4]
     rcases h3 with h3|h3<;>simp[yielded,hj',ht,h3]
    simp only[Region.wanted,hg,h2];cases want<;>rfl
   ·rename_i b hb;cases b<;>cases want<;>exact⟨_,⟨tm,ob⟩,h,fun t=>.rfl,rfl,lit _ tm _ hb rfl⟩
   ·rename_i b hb;cases b with
    |true=>
     have:=h.1 rfl;cases want<;>exact⟨_,_,this,sbv true hb,rfl,lit true _ _ (by rw[Z0m,qK rfl]) rfl⟩
    |false=>
     have:=h.2 rfl;cases want<;>exact⟨_,_,this,sbv false hb,rfl,lit false _ _ (by rw[Z0m,qK rfl]) rfl⟩
   exact h.elim
  exact h.elim
 exact h.elim
theorem Zaa{nt:Nat}{d:Option Nat}{s:AState}{v:AV}{u:Upd}{K:AState->Prop}(h:nextS nt d s v u K):K ⟨putT s.tm d v,u++s.ob⟩∧∀t,d=some t->t<nt:=by
 obtain⟨tm,ob⟩:=s;unfold nextS at h;cases d with
 |none=>
  simp only at h;refine⟨?_,fun t e=>by cases e⟩
  match u,h with
  | [],h=>exact h
  | [x],h=>exact h
  |x::y::r,h=>exact h
 |some t=>
  obtain⟨h1,h⟩:=Z02 h;refine⟨?_,fun t' e=>by cases e;exact qi h1⟩
  match u,h with
  | [],h=>exact h
  | [x],h=>exact h
  |x::y::r,h=>exact h
theorem Zq5{tm:List (Nat×AV)}{d:Option Nat}{v:AV}{t:Nat}:getT (putT tm d v) t=if d=some t then v else getT tm t:=by
 cases d with
 |none=>simp[putT]
 |some d=>simp only[putT,Z0m,qw]
theorem Zd1{P:Program}{T:Tab}{nt:Nat}(hT:T.ok P){ops:Array Oper}:∀(r:List Oper) (s:AState) (log:List Touch) (K:AState->List Touch->Prop) (x0:Nat->AV) (o0:Nat->Option AObj),
  (∀t,AVs (x0 t) (getT s.tm t))->(∀l,getO s.ob l=o0 l)->arunD P T nt ops.toList r s log K->
  ∃(W:Nat->Bool) (V:Nat->AV) (U:Nat->Upd) (S:Nat->AState) (to:Nat->Touch) (sN:AState),K sN (log++(List.range r.length).map to)∧
   (∀i o,r[i]? = some o->LexAt P nt ops o (fun t=>vT (fun j=>(r[j]?).bind (·.dst)) V t (x0 t) (fun _=>true) i) (fun l=>vO U l (o0 l) (fun _=>true) i) (W i) (V i) (U i) (S i) (to i))∧
   (∀t,AVs (vT (fun j=>(r[j]?).bind (·.dst)) V t (x0 t) (fun _=>true) r.length) (getT sN.tm t))∧(∀l,getO sN.ob l=vO U l (o0 l) (fun _=>true) r.length)
 | [],s,log,K,x0,o0,hx,ho,h=>⟨fun _=>true,fun _=>.junk,fun _=>[],fun _=>s,fun _=>⟨[],[]⟩,s,by simpa using(show K s log from h),fun i o e=>by simp at e,fun t=>hx t,fun l=>ho l⟩
 |o::r,s,log,K,x0,o0,hx,ho,h=>by
  unfold arunD at h;obtain⟨W0,S0,hK,hS,hSo,hg⟩:=Zq8 h;have hx0:∀t,AVs (x0 t) (getT S0.tm t):=fun t=>⟨fun P w St M σ v hv=>(hS t).to P w St M σ v ((hx t).to P w St M σ v hv),fun l hl=>(hx t).rf l ((hS t).rf l hl)⟩
  have ho0:∀l,getO S0.ob l=o0 l:=fun l=>by rw[hSo];exact ho l
  have first:∃(V0:AV) (U0:Upd) (to0:Touch),arunD P T nt ops.toList r ⟨putT S0.tm o.dst V0,U0++S0.ob⟩ (log ++ [to0]) K∧LexAt P nt ops o x0 o0 W0 V0 U0 S0 to0:=by
   cases W0 with
   |true=>
    simp only at hK;have hK':aopcN P T o (idOf o.dst) (evO S0.tm) (getO S0.ob) fun v u=>iceB o.op v u fun v u=>nextS nt o.dst S0 v u fun s'=>arunD P T nt ops.toList r s' (log ++ [⟨looksOf S0.tm S0.ob o.op,keysOf u⟩]) K:=by
     obtain⟨tm,ob⟩:=S0;obtain⟨d,op,ty,pos,after,guard⟩:=o;cases d<;>(simp only[opSD,Zej]at hK;exact hK)
    by_cases hm:∃x,o.op = .move x∨o.op = .assign x
    ·obtain⟨x,hx⟩:=hm;have hK2:nextS nt o.dst S0 (evO S0.tm x) [] fun s'=>arunD P T nt ops.toList r s' (log ++ [⟨looksOf S0.tm S0.ob o.op,keysOf []⟩]) K:=by
      rcases hx with e|e
      ·unfold aopcN aopc at hK';simp only[e,Z2x,iceB]at hK';rw[e];exact hK'
      ·unfold aopcN aopc at hK';simp only[e,Z2x,iceB]at hK';rw[e];exact hK'
     obtain⟨h1,h2⟩:=Zaa hK2;exact⟨evO S0.tm x,[],_,h1,hx0,ho0,fun _=>(Z7u hx).toN (fun l hl=>absurd rfl hl),fun _=>⟨rfl,rfl⟩,fun e=>(by cases e),fun _ y hy=>⟨by
      rcases hx with e|e<;>rcases hy with e2|e2<;>rw[e]at e2<;>cases e2<;>rfl,rfl⟩,hg,h2⟩
    ·obtain⟨v0,u0,hn0,hs0⟩:=Z8w hT hK';obtain⟨v,u,hn,hs⟩:=Zet hn0 hs0;obtain⟨h1,h2⟩:=Zaa hn;exact⟨v,u,_,h1,hx0,ho0,fun _=>hs,fun _=>⟨rfl,rfl⟩,fun e=>(by cases e),fun _ y hy=>absurd ⟨y,hy⟩ hm,hg,h2⟩
   |false=>
    simp only at hK;obtain⟨h1,h2⟩:=Zaa hK;exact⟨skipV,[],_,h1,hx0,ho0,fun e=>(by cases e),fun e=>(by cases e),fun _=>⟨rfl,rfl⟩,fun e=>(by cases e),hg,h2⟩
  obtain⟨V0,U0,to0,hrest,hlex⟩:=first
  obtain⟨W,V,U,S,to,sN,hKN,hall,hfinT,hfinO⟩:=Zd1 hT r _ _ K (fun t=>if o.dst=some t then V0 else x0 t) (fun l=>if getO U0 l≠none then getO U0 l else o0 l)
   (fun t=>by
    rw[Zq5]
    by_cases e:o.dst=some t
    ·rw[qK e,qK e];exact .rfl
    ·rw[qJ e,qJ e];exact hx0 t)
   (fun l=>by
    simp only[Z4g];cases e:getO U0 l with
    |some ob=>simp
    |none=>simp[ho0 l]) hrest
  refine⟨fun|0=>W0|j+1=>W j,fun|0=>V0|j+1=>V j,fun|0=>U0|j+1=>U j,fun|0=>S0|j+1=>S j,fun|0=>to0|j+1=>to j,sN,?_,?_,?_,?_⟩
  ·have:(List.range (o::r).length).map (fun|0=>to0|j+1=>to j)=to0 ::(List.range r.length).map to:=by
    rw[qy,List.range_succ_eq_map];simp[Function.comp_def]
   rw[this];simpa using hKN
  ·intro i o' e;cases i with
   |zero=>simp at e;subst e;simpa[vT,vO]using hlex
   |succ i=>
    have h1:=hall i o' (by simpa using e);have e1:(fun t=>vT (fun j=>((o::r)[j]?).bind (·.dst)) (fun|0=>V0|j+1=>V j) t (x0 t) (fun _=>true) (i+1))=fun t=>vT (fun j=>(r[j]?).bind (·.dst)) V t (if o.dst=some t then V0 else x0 t) (fun _=>true) i:=by
     funext t;rw[Zbh];simp
    have e2:(fun l=>vO (fun|0=>U0|j+1=>U j) l (o0 l) (fun _=>true) (i+1))=fun l=>vO U l (if getO U0 l≠none then getO U0 l else o0 l) (fun _=>true) i:=by
     funext l;rw[Zbg]
    rw[e1,e2];exact h1
  ·intro t;rw[qy,Zbh];simpa using hfinT t
  ·intro l;rw[qy,Zbg];exact hfinO l
theorem Zqv{u:Upd}{l:Nat}(h:getO u l≠none):l∈keysOf u:=by
 induction u with
 |nil=>exact absurd rfl h
 |cons x u ih=>
  obtain⟨i,o⟩:=x;rw[Z0v]at h
  by_cases e:i=l
  ·subst e;simp[keysOf]
  rw[qJ e]at h;have:=ih h;simp only[keysOf,List.map_cons,qk];exact .inr this
theorem Z7c{tm:List (Nat×AV)}{x:Operand}{l:Nat}(hl:l∈refs (evO tm x)):∀ {xs:List Operand},x∈xs->l∈looksL tm xs
 |y::xs,hx=>by
  simp only[looksL,qo];rcases qk.1 hx with e|hx
  ·subst e;exact .inl hl
  exact .inr (Z7c hl hx)
theorem Z6n{ob:Nat->Option AObj}{l:Nat}:∀ {ls:List Nat},l∈ls->l∈deepL ob ls
 |k::ls,h=>by
  have ih:l∈ls->l∈deepL ob ls:=Z6n;unfold deepL;rcases qk.1 h with rfl|h
  ·split<;>simp
  split<;>simp[ih h]
theorem Z6o{ob:Nat->Option AObj}{l k:Nat}{obj:AObj}(ho:ob l=some obj)(hk:k∈refsO obj):∀ {ls:List Nat},l∈ls->k∈deepL ob ls
 |m::ls,h=>by
  have ih:l∈ls->k∈deepL ob ls:=Z6o ho hk;unfold deepL;rcases qk.1 h with rfl|h
  ·rw[ho];cases obj with
   |box cs=>simp only[refsO]at hk;simp[hk]
   |_=>simp[refsO]at hk
  split<;>simp[ih h]
theorem Zrk{tm:List (Nat×AV)}{ob:List (Nat×AObj)}{o:Oper}{k:Nat}(hop:¬ ∃x,o.op = .move x∨o.op = .assign x)(h:near o (evO tm) (getO ob) k):k∈looksOf tm ob o.op:=by
 have e:looksOf tm ob o.op=deepL (getO ob) (deepL (getO ob) (looksL tm o.op.operands.toList)):=by
  revert hop;generalize o.op=op;intro hop;cases op<;>first|rfl|exact(hop ⟨_,.inl rfl⟩).elim|exact(hop ⟨_,.inr rfl⟩).elim
 rw[e];rcases h with⟨x,hx,hk⟩|⟨x,hx,l,hl,obj,ho,hk⟩|⟨x,hx,m,hm,obj',ho',l,hl,obj,ho,hk⟩
 ·exact Z6n (Z6n (Z7c hk (Array.mem_toList_iff.2 hx)))
 ·exact Z6n (Z6o ho hk (Z7c hl (Array.mem_toList_iff.2 hx)))
 exact Z6o ho hk (Z6o ho' hl (Z7c hm (Array.mem_toList_iff.2 hx)))
theorem Zo6{os:List Oper}:∀ {i:Nat},backEdges i os=true->∀(j:Nat) (o:Oper),os[j]? = some o->∀e∈o.after.toList,Region.binds .any e=true->e.on<i+j:=by
 induction os with
 |nil=>intro i _ j o e;simp at e
 |cons x os ih=>
  intro i h j o e ed hm hb;simp only[backEdges,qc]at h;cases j with
  |zero=>
   simp only[List.getElem?_cons_zero,qw]at e;subst e;have:=qz.1 h.1 ed hm;rw[hb]at this;exact qi this
  |succ j=>
   have:=ih h.2 j o (by simpa using e) ed hm hb;omega
theorem RelF.sub{P:Program}{E:FEnv}{tmf tmf':Nat->AV}{obf obf':Nat->Option AObj}{σ:Sig}{a:Act}{w:World}(h:RelF P E tmf obf σ a w)(ht:∀t,AVs (tmf t) (tmf' t))(ho:∀l,obf' l=obf l):RelF P E tmf' obf' σ a w:=by
 have:obf'=obf:=funext ho;subst this;exact { h with
  tm:=fun t=>(ht t).to P w E.St _ σ _ (h.tm t)
  wt:=fun t l hl=>h.wt t l ((ht t).rf l hl) }
theorem RelF.skip{P:Program}{E:FEnv}{tmf tmf':Nat->AV}{obf obf':Nat->Option AObj}{σ:Sig}{a:Act}{w:World}(h:RelF P E tmf obf σ a w){d:Option Nat}(hd:∀t,d=some t->t<E.nt)
  (ht:∀t,(d=some t∧tmf' t=skipV)∨(d≠some t∧tmf' t=tmf t)) (ho:∀l,obf' l=obf l):RelF P E tmf' obf' σ (a.put d undef) w:=by
 have:obf'=obf:=funext ho;subst this;refine⟨?_,?_,fun t=>?_,h.ob,h.nob,fun t l hl=>?_,h.wo,h.sep,h.own,h.ext,h.pn⟩
 ·cases d<;>simp[Act.put,h.sz]
 ·cases d<;>simp[Act.put,h.df]
 ·rcases ht t with⟨ed,e⟩|⟨e,e'⟩
  ·rw[e];subst ed;have hlt:t<a.tmps.size:=by rw[h.sz];exact hd t rfl
   simp[Act.put,qb,hlt];exact .pv _ _ (.val _)
  rw[e'];have:=h.tm t;cases d with
  |none=>exact this
  |some d=>
   have hne:d≠t:=fun hh=>e (by rw[hh])
   simpa[Act.put,qb,Array.getElem?_setIfInBounds_ne hne]using this
 rcases ht t with⟨_,e⟩|⟨_,e⟩
 ·rw[e]at hl;simp[refs]at hl
 rw[e]at hl;exact h.wt t l hl
theorem Zdq{i:Nat}{p q:Nat->Bool}(hp:p i=true)(hq:q i=false)(h:∀j,j≠i->p j=q j):∀ {n:Nat},(List.range n).countP p=(List.range n).countP q+if i<n then 1 else 0
 |0=>by simp
 |n+1=>by
  have ih:=Zdq hp hq h (n:=n);rw[List.range_succ,List.countP_append,List.countP_append,ih]
  by_cases e:n=i
  ·subst e;simp[hp,hq]
  have hn:=h n e
  by_cases hlt:i<n
  ·rw[qK hlt,qK (by omega)];simp only[List.countP_cons,List.countP_nil,hn];omega
  rw[qJ hlt,qJ (by omega)];simp only[List.countP_cons,List.countP_nil,hn];omega
theorem Zd0{P:Program}{T:Tab}{E:FEnv}(hE:E.ok)(hT:T.ok P){ops:Array Oper}(hok:drawOk ops.toList=true){K:AState->Prop}{Q:Exit->Act->World->Prop}(hQ:∀s σ a w,K s->Rel P E s σ a w->Q .normal a w)
  {s:AState} {σ:Sig} {a:Act} {w:World} (hR:Rel P E s σ a w) (h:arunD P T E.nt ops.toList ops.toList s [] (fun s log=>logOk ops.toList log=true∧K s)) :
  wpAny P .any ops Q ops.size (Array.replicate ops.size false) a w:=by
 obtain⟨W,V,U,S,to,sN,⟨hlog,hK⟩,hall,hfT,hfO⟩:=Zd1 hT ops.toList s [] _ (getT s.tm) (getO s.ob) (fun t=>.rfl) (fun l=>rfl) h;simp only[List.nil_append]at hlog;have hN:ops.toList.length=ops.size:=by simp
 simp only[drawOk,qc]at hok;obtain⟨hback,hpair⟩:=hok
 let dst:Nat->Option Nat:=fun j=>(ops.toList[j]?).bind (·.dst)
 have htc:∀(i k:Nat) (oi ok:Oper),ops[i]? = some oi->ops[k]? = some ok->i<k->tmpConf ops.toList oi ok=true->((befL ops.toList []).getD k 0).testBit i=true:=
  fun i k oi ok hi hk hik hc=>Zaf (pre:=[]) rfl hpair i k oi ok hik (by simpa using hi) (by simpa using hk) (qe _) hc
 have hoc:∀i k,i<k->k<ops.size->objConf (to i) (to k)=true->((befL ops.toList []).getD k 0).testBit i=true:=by
  intro i k hik hk hc;refine Zaf (pre:=[]) rfl hlog i k (to i) (to k) hik ?_ ?_ (qe _) hc
  ·simp[show i<ops.size from by omega]
  ·simp[hk]
 have hobj:∀i,i<ops.size->∃o,ops[i]? = some o:=fun i hi=>⟨ops[i],by simp[hi]⟩
 have hlex:∀i o,ops[i]? = some o->LexAt P E.nt ops o (fun t=>vT dst V t (getT s.tm t) (fun _=>true) i) (fun l=>vO U l (getO s.ob l) (fun _=>true) i) (W i) (V i) (U i) (S i) (to i):=fun i o ho=>hall i o (by simpa using ho)
 have hwr:∀i o l,ops[i]? = some o->getO (U i) l≠none->l∈(to i).writes:=by
  intro i o l ho hl;have hx:=hlex i o ho;cases hW:W i with
  |true=>rw[(hx.looks hW).2];exact Zqv hl
  |false=>rw[(hx.skip hW).2]at hl;exact absurd rfl hl
 have hconfT:∀(i k:Nat) (oi ok:Oper) (t:Nat),ops[i]? = some oi->ops[k]? = some ok->i≠k->(t∈opTmps ops.toList oi∨oi.dst=some t)->ok.dst=some t->tmpConf ops.toList oi ok=true∧tmpConf ops.toList ok oi=true:=by
  intro i k oi ok t _ _ _ ht hk;constructor
  ·unfold tmpConf;rw[hk];rcases ht with ht|ht
   ·simp[ht]
   ·simp[ht]
  ·unfold tmpConf;rw[hk];rcases ht with ht|ht
   ·simp[ht]
   ·simp[ht]
 have hconfO:∀(x y:Touch) (l:Nat),(l∈x.looks∨l∈x.writes)->l∈y.writes->objConf x y=true∧objConf y x=true:=by
  intro x y l hx hy;constructor
  ·unfold objConf;rcases hx with hx|hx
   ·simp only[Bool.or_eq_true,List.any_eq_true,List.contains_iff_mem];exact .inr ⟨l,hy,hx⟩
   ·simp only[Bool.or_eq_true,List.any_eq_true,List.contains_iff_mem];exact .inl ⟨l,hx,.inr hy⟩
  ·unfold objConf;rcases hx with hx|hx
   ·simp only[Bool.or_eq_true,List.any_eq_true,List.contains_iff_mem];exact .inl ⟨l,hy,.inl hx⟩
   ·simp only[Bool.or_eq_true,List.any_eq_true,List.contains_iff_mem];exact .inl ⟨l,hy,.inr hx⟩
 have main:∀(fuel:Nat) (listed:Array Bool) (a:Act) (w:World),listed.size=ops.size->(List.range ops.size).countP (fun i=>!listed.getD i true)=fuel->
   (∀j o,listed.getD j false=true->ops[j]? = some o->∀e∈o.after.toList,Region.binds .any e=true->listed.getD e.on false=true)->
   (∃σ,RelF P E (fun t=>vT dst V t (getT s.tm t) (fun j=>listed.getD j false) ops.size) (fun l=>vO U l (getO s.ob l) (fun j=>listed.getD j false) ops.size) σ a w)->
   wpAny P .any ops Q fuel listed a w:=by
  intro fuel;have hgd:∀(listed:Array Bool) (j:Nat),listed.size=ops.size->j<ops.size->listed.getD j true=listed.getD j false:=by
   intro listed j hsz hj;simp[Array.getD,hsz,hj]
  have done:∀(listed:Array Bool) (a:Act) (w:World),listed.size=ops.size->(∀j,j<ops.size->listed.getD j false=true)->
    (∃σ,RelF P E (fun t=>vT dst V t (getT s.tm t) (fun j=>listed.getD j false) ops.size) (fun l=>vO U l (getO s.ob l) (fun j=>listed.getD j false) ops.size) σ a w)->Q .normal a w:=by
   intro listed a w hsz hl ⟨σ,hF⟩;refine hQ sN σ a w hK (hF.sub (fun t=>?_) (fun l=>?_))
   ·have e:vT dst V t (getT s.tm t) (fun j=>listed.getD j false) ops.size=vT dst V t (getT s.tm t) (fun _=>true) ops.size:=vT_eq (qL _) (fun j hj _=>by simp[hl j hj,hj]);show AVs (vT dst V t (getT s.tm t) (fun j=>listed.getD j false) ops.size) _
    rw[e];have:=hfT t;rw[hN]at this;exact this
   ·have e:vO U l (getO s.ob l) (fun j=>listed.getD j false) ops.size=vO U l (getO s.ob l) (fun _=>true) ops.size:=vO_eq (qL _) (fun j hj _=>by simp[hl j hj,hj]);show getO sN.ob l=vO U l (getO s.ob l) (fun j=>listed.getD j false) ops.size
    rw[e];have:=hfO l;rw[hN]at this;exact this
  have allOf:∀(listed:Array Bool),listed.size=ops.size->Region.ready .any ops listed = []->∀j,j<ops.size->listed.getD j false=true:=by
   intro listed hsz hr;intro j
   induction j using Nat.strongRecOn with
   |_ j ihj=>
    intro hj;cases hb:listed.getD j false with
    |true=>rfl
    |false=>
     obtain⟨o,ho⟩:=hobj j hj;have:j∈Region.ready .any ops listed:=by
      rw[mem_ready];refine⟨by rw[hgd listed j hsz hj];exact hb,o,ho,fun e he hbd=>?_⟩;have hlt:=Zo6 hback j o (by simpa using ho) e (by simpa using he) hbd;exact ihj e.on (by omega) (by omega)
     rw[hr]at this;simp at this
  induction fuel with
  |zero=>
   intro listed a w hsz hcnt hcl hF;have hall':∀j,j<ops.size->listed.getD j false=true:=by
    intro j hj;have:=List.countP_eq_zero.1 hcnt j (by simpa using hj);rw[hgd listed j hsz hj]at this;simpa using this
   refine⟨?_,done listed a w hsz hall' hF⟩;rw[List.eq_nil_iff_forall_not_mem];intro j hj;rw[mem_ready]at hj;obtain⟨h0,o,ho,_⟩:=hj;have hlt:j<ops.size:=(Array.getElem?_eq_some_iff.1 ho).1;rw[hgd listed j hsz hlt,hall' j hlt]at h0;cases h0
  |succ fuel ih=>
   intro listed a w hsz hcnt hcl hF;refine⟨fun hr=>done listed a w hsz (allOf listed hsz hr) hF,fun i hi=>?_⟩;rw[mem_ready]at hi;obtain⟨h0,o,ho,hed⟩:=hi;have hlt:i<ops.size:=(Array.getElem?_eq_some_iff.1 ho).1;have hun:listed.getD i false=false:=by rw[<-hgd listed i hsz hlt];exact h0
   have hx:=hlex i o ho;have hbefore:∀k,((befL ops.toList []).getD i 0).testBit k=true->listed.getD k false=true:=
    Z94 (ops:=ops.toList) (D:=fun j=>listed.getD j false=true) (fun j o' hj ho'=>hcl j o' hj (by simpa using ho')) ops.toList [] [] rfl rfl (fun j hj=>by simp at hj) i o (by simpa using ho) (fun e he hb=>hed e (by simpa using he) hb)
   have hafter:∀j oj,ops[j]? = some oj->listed.getD j false=true->((befL ops.toList []).getD j 0).testBit i=true->False:=by
    intro j oj hoj hj hbit;have:listed.getD i false=true:=Z94 (ops:=ops.toList) (D:=fun j=>listed.getD j false=true) (fun j o' hj ho'=>hcl j o' hj (by simpa using ho')) ops.toList [] [] rfl rfl (fun j hj=>by simp at hj) j oj (by simpa using hoj) (fun e he hb=>hcl j oj hj hoj e (by simpa using he) hb) i hbit;rw[hun]at this;cases this
   have ordT:∀t,(t∈opTmps ops.toList o∨o.dst=some t)->∀j,j<ops.size->dst j=some t->(listed.getD j false=true↔(j<i∧true=true)):=by
    intro t ht j hj hd
    by_cases e:j=i
    ·subst e;simp[hun]
    obtain⟨oj,hoj⟩:=hobj j hj;have hdj:oj.dst=some t:=by
     have:(ops.toList[j]?).bind (·.dst)=some t:=hd;simpa[hoj]using this
    obtain⟨c1,c2⟩:=hconfT i j o oj t ho hoj (Ne.symm e) ht hdj;constructor
    ·intro hl;refine⟨?_,rfl⟩;rcases Nat.lt_or_ge j i with h1|h1
     ·exact h1
     ·exact(hafter j oj hoj hl (htc i j o oj ho hoj (by omega) c1)).elim
    ·rintro ⟨h1,_⟩
     exact hbefore j (htc j i oj o hoj ho h1 c2)
   have ordO:∀l,(l∈(to i).looks∨l∈(to i).writes)->∀j,j<ops.size->getO (U j) l≠none->(listed.getD j false=true↔(j<i∧true=true)):=by
    intro l hl j hj hd
    by_cases e:j=i
    ·subst e;simp[hun]
    obtain⟨oj,hoj⟩:=hobj j hj;obtain⟨c1,c2⟩:=hconfO (to i) (to j) l hl (hwr j oj l hoj hd);constructor
    ·intro hl;refine⟨?_,rfl⟩;rcases Nat.lt_or_ge j i with h1|h1
     ·exact h1
     ·exact(hafter j oj hoj hl (hoc i j (by omega) hj c1)).elim
    ·rintro ⟨h1,_⟩
     exact hbefore j (hoc j i h1 hlt c2)
   have eqT:∀t,(t∈opTmps ops.toList o∨o.dst=some t)->vT dst V t (getT s.tm t) (fun j=>listed.getD j false) ops.size=vT dst V t (getT s.tm t) (fun _=>true) i:=
    fun t ht=>vT_eq (Nat.le_of_lt hlt) (fun j hj hd=>ordT t ht j hj hd)
   have eqO:∀l,(l∈(to i).looks∨l∈(to i).writes)->vO U l (getO s.ob l) (fun j=>listed.getD j false) ops.size=vO U l (getO s.ob l) (fun _=>true) i:=
    fun l hl=>vO_eq (Nat.le_of_lt hlt) (fun j hj hd=>ordO l hl j hj hd)
   obtain⟨σ,hF⟩:=hF;have hAt:∀t,t∈opTmps ops.toList o->AR P w E.St (Mof E.M0 σ) σ (getT (S i).tm t) (a.tmps.getD t undef):=by
    intro t ht;have h1:AR P w E.St (Mof E.M0 σ) σ (vT dst V t (getT s.tm t) (fun j=>listed.getD j false) ops.size) (a.tmps.getD t undef):=hF.tm t;rw[eqT t (.inl ht)]at h1;exact(hx.tm t).to P w E.St _ σ _ h1
   have hwant:=hx.guard a.tmps (fun t ht=>⟨P,w,_,_,σ,hAt t ht⟩);have hsel:∀j,(listed.setIfInBounds i true).getD j false=(listed.getD j false||j == i):=by
    intro j
    by_cases e:j=i
    ·subst e;simp[qb,hsz,hlt]
    ·have:(j == i)=false:=by simpa using e
     rw[this,Bool.or_false,getD_set_ne false (Ne.symm e)]
   have hnT:∀t,vT dst V t (getT s.tm t) (fun j=>(listed.setIfInBounds i true).getD j false) ops.size=if o.dst=some t then V i else vT dst V t (getT s.tm t) (fun j=>listed.getD j false) ops.size:=by
    intro t;rw[vT_add (sel:=fun j=>listed.getD j false) (i:=i) hsel hun (fun j hj hij hdi hdj=>by
     have hdi':o.dst=some t:=by
      have:(ops.toList[i]?).bind (·.dst)=some t:=hdi;simpa[ho]using this
     have:=ordT t (.inr hdi') j hj hdj;cases hb:listed.getD j false with
     |false=>rfl
     |true=>have:=(this.1 hb).1;omega)]
    have:dst i=o.dst:=by show(ops.toList[i]?).bind (·.dst)=o.dst;simp[ho]
    rw[this];simp[hlt]
   have hnO:∀l,vO U l (getO s.ob l) (fun j=>(listed.setIfInBounds i true).getD j false) ops.size=if getO (U i) l≠none then getO (U i) l else vO U l (getO s.ob l) (fun j=>listed.getD j false) ops.size:=by
    intro l;rw[vO_add (sel:=fun j=>listed.getD j false) (i:=i) hsel hun (fun j hj hij hdi hdj=>by
     have:=ordO l (.inr (hwr i o l ho hdi)) j hj hdj;cases hb:listed.getD j false with
     |false=>rfl
     |true=>have:=(this.1 hb).1;omega)]
    simp[hlt]
   have hnext:∀(a':Act) (w':World),(∃σ,RelF P E (fun t=>vT dst V t (getT s.tm t) (fun j=>(listed.setIfInBounds i true).getD j false) ops.size) (fun l=>vO U l (getO s.ob l) (fun j=>(listed.setIfInBounds i true).getD j false) ops.size) σ a' w')->wpAny P .any ops Q fuel (listed.setIfInBounds i true) a' w':=by
    intro a' w' hF';refine ih (listed.setIfInBounds i true) a' w' (by simp[hsz]) ?_ (fun j oj hj hoj e he hb=>?_) hF'
    ·have hnd:(List.range ops.size).Nodup:=List.nodup_range;have:(List.range ops.size).countP (fun j=>!listed.getD j true)=(List.range ops.size).countP (fun j=>!(listed.setIfInBounds i true).getD j true)+1:=by
      rw[Zdq (i:=i) (p:=fun j=>!listed.getD j true) (q:=fun j=>!(listed.setIfInBounds i true).getD j true) (by show(!listed.getD i true)=true;rw[h0];rfl) (by simp[qb,hsz,hlt]) (fun j hj=>by show(!listed.getD j true)=(!(listed.setIfInBounds i true).getD j true);rw[getD_set_ne true (Ne.symm hj)]),qK hlt]
     omega
    ·rw[hsel]at hj ⊢;rw[Bool.or_eq_true]at hj ⊢;rcases hj with hj|hj
     ·exact .inl (hcl j oj hj hoj e he hb)
     ·have:j=i:=by simpa using hj
      subst this;rw[ho]at hoj;cases hoj;exact .inl (hed e (by simpa using he) hb)
   unfold wpOp;rw[ho];simp only;rw[hwant];cases hW:W i with
   |false=>
    simp only[Bool.false_eq_true,if_false];obtain⟨hv,hu⟩:=hx.skip hW;refine hnext _ _ ⟨σ,hF.skip hx.dst (fun t=>?_) (fun l=>?_)⟩
    ·simp only[hnT,hv]
     by_cases e:o.dst=some t
     ·exact .inl ⟨e,by rw[qK e]⟩
     ·exact .inr ⟨e,by rw[qJ e]⟩
    ·simp only[hnO,hu];simp[getO]
   |true=>
    simp only[if_true];refine .inl ?_;have hstep:=hx.run hW;obtain⟨hlk,hwk⟩:=hx.looks hW;have hev:∀x∈o.op.operands,AR P w E.St (Mof E.M0 σ) σ (evO (S i).tm x) (a.eval x):=by
     intro x hxm;cases x with
     |tmp t=>
      refine hAt t ?_;unfold opTmps;exact List.mem_append_left _ (List.mem_filterMap.2 ⟨.tmp t,Array.mem_toList_iff.2 hxm,rfl⟩)
     |const v=>exact .pv _ _ (Z3l v)
     |func f=>exact .fn f [] #[] rfl (fun i c e=>by simp at e)
     |global g=>exact Ze1 hE hF _ g
    have hrf:∀x∈o.op.operands,∀l∈refs (evO (S i).tm x),vO U l (getO s.ob l) (fun j=>listed.getD j false) ops.size≠none:=by
     intro x hxm l hl;cases x with
     |tmp t=>
      have hm:t∈opTmps ops.toList o:=by
       unfold opTmps;exact List.mem_append_left _ (List.mem_filterMap.2 ⟨.tmp t,Array.mem_toList_iff.2 hxm,rfl⟩)
      have h1:l∈refs (vT dst V t (getT s.tm t) (fun _=>true) i):=(hx.tm t).rf l hl;rw[<-eqT t (.inl hm)]at h1;exact hF.wt t l h1
     |const v=>simp[evO,refs]at hl
     |func f=>simp[evO,refs,refs.refsL]at hl
     |global g=>rw[Zh5]at hl;simp at hl
    by_cases hmv:∃x,o.op = .move x∨o.op = .assign x
    ·obtain⟨x0,hx0⟩:=hmv;obtain⟨hVi,hUi⟩:=hx.mv hW x0 hx0;have hsA:StepN P o (evO (S i).tm) (fun l=>vO U l (getO s.ob l) (fun j=>listed.getD j false) ops.size) (U i) (V i):=by
      rw[hVi,hUi];exact(Z7u hx0).toN (fun l hl=>absurd rfl hl)
     have hnA:∀k,near o (evO (S i).tm) (fun l=>vO U l (getO s.ob l) (fun j=>listed.getD j false) ops.size) k->vO U k (getO s.ob k) (fun j=>listed.getD j false) ops.size≠none:=by
      intro k hk;rcases hk with⟨x,hxm,hk⟩|⟨x,hxm,l,hl,obj,ho',hk⟩|⟨x,hxm,m,hm,obj',ho'',l,hl,obj,ho',hk⟩
      ·exact hrf x hxm k hk
      ·exact hF.wo l obj ho' k hk
      ·exact hF.wo l obj ho' k hk
     refine(hsA.runs E.St E.M0 σ w a.eval (hF.inv hE) hev (fun k hk obj e=>hF.ob k obj e) (fun k hk=>hnA k hk) (fun l hl h1=>hF.nob l h1)).wp (fun v' w' ⟨σ',hp⟩=>hnext _ _ ⟨σ',hF.post hE hp hx.dst (fun l obj e=>(hsA.lv l obj e).2) (fun l hl=>(hsA.rv l hl).imp (hnA l) id) (fun k obj e l hl=>(hsA.ro k obj e l hl).imp (hnA l) id) (fun t=>?_) (fun l=>?_)⟩)
     ·simp only[hnT]
      by_cases e:o.dst=some t
      ·exact .inl ⟨e,by rw[qK e]⟩
      ·exact .inr ⟨e,by rw[qJ e]⟩
     ·simp only[hnO];cases e:getO (U i) l with
      |none=>exact .inr ⟨rfl,by simp⟩
      |some ob=>exact .inl ⟨ob,rfl,by simp⟩
    have hin:∀k,near o (evO (S i).tm) (getO (S i).ob) k->k∈(to i).looks:=fun k hk=>by rw[hlk];exact Zrk hmv hk
    have hobS:∀l,(l∈(to i).looks∨l∈(to i).writes)->getO (S i).ob l=vO U l (getO s.ob l) (fun j=>listed.getD j false) ops.size:=fun l hl=>by rw[eqO l hl];exact hx.ob l
    have hnr:∀k,near o (evO (S i).tm) (getO (S i).ob) k->vO U k (getO s.ob k) (fun j=>listed.getD j false) ops.size≠none:=by
     intro k hk;rcases hk with⟨x,hxm,hk⟩|⟨x,hxm,l,hl,obj,ho',hk⟩|⟨x,hxm,m,hm,obj',ho'',l,hl,obj,ho',hk⟩
     ·exact hrf x hxm k hk
     ·rw[hobS l (.inl (hin l (.inl ⟨x,hxm,hl⟩)))]at ho';exact hF.wo l obj ho' k hk
     ·rw[hobS l (.inl (hin l (.inr (.inl ⟨x,hxm,m,hm,obj',ho'',hl⟩))))]at ho';exact hF.wo l obj ho' k hk
    have hUw:∀l,getO (U i) l≠none->l∈(to i).writes:=fun l hl=>hwr i o l ho hl
    refine(hstep.runs E.St E.M0 σ w a.eval (hF.inv hE) hev (fun k hk obj e=>?_) (fun k hk=>?_) (fun l hl h1=>?_)).wp (fun v' w' ⟨σ',hp⟩=>hnext _ _ ⟨σ',hF.post hE hp hx.dst (fun l obj e=>?_) (fun l hl=>?_) (fun k obj e l hl=>?_) (fun t=>?_) (fun l=>?_)⟩)
    ·refine hF.ob k obj ?_;rw[<-hobS k (.inl (hin k hk))];exact e
    ·rw[hobS k (.inl (hin k hk))];exact hnr k hk
    ·rw[hobS l (.inr (hUw l hl))]at h1;exact hF.nob l h1
    ·have hl:getO (U i) l≠none:=by rw[e];simp
     show vO U l (getO s.ob l) (fun j=>listed.getD j false) ops.size=none∨liveO (vO U l (getO s.ob l) (fun j=>listed.getD j false) ops.size)=true∨obj = .gone
     rw[<-hobS l (.inr (hUw l hl))];exact(hstep.lv l obj e).2
    ·exact(hstep.rv l hl).imp (hnr l) id
    ·exact(hstep.ro k obj e l hl).imp (hnr l) id
    ·simp only[hnT]
     by_cases e:o.dst=some t
     ·exact .inl ⟨e,by rw[qK e]⟩
     ·exact .inr ⟨e,by rw[qJ e]⟩
    ·simp only[hnO];cases e:getO (U i) l with
     |none=>exact .inr ⟨rfl,by simp⟩
     |some ob=>exact .inl ⟨ob,rfl,by simp⟩
 refine main ops.size (Array.replicate ops.size false) a w (by simp) ?_ (fun j o hj=>?_) ⟨σ,?_⟩
 ·have:(List.range ops.size).countP (fun i=>!(Array.replicate ops.size false).getD i true)=(List.range ops.size).length:=by
   rw[List.countP_eq_length];intro j hj;have hj':j<ops.size:=by simpa using hj
   simp[Array.getD,hj']
  rw[this];simp
 ·have:(Array.replicate ops.size false).getD j false=false:=by
   by_cases h:j<ops.size<;>simp[Array.getD,h]
  rw[this]at hj;cases hj
 ·have hf:∀j,(Array.replicate ops.size false).getD j false=false:=by
   intro j
   by_cases h:j<ops.size<;>simp[Array.getD,h]
  have e1:∀t,vT dst V t (getT s.tm t) (fun j=>(Array.replicate ops.size false).getD j false) ops.size=getT s.tm t:=fun t=>vT_eq (sel':=fun _=>true) (i:=0) (qe _) (fun j _ _=>by simp[hf])
  have e2:∀l,vO U l (getO s.ob l) (fun j=>(Array.replicate ops.size false).getD j false) ops.size=getO s.ob l:=fun l=>vO_eq (sel':=fun _=>true) (i:=0) (qe _) (fun j _ _=>by simp[hf])
  exact hR.sub (fun t=>by simp only[e1];exact .rfl) (fun l=>e2 l)
inductive AExit where
 |normal
 |exit (id:Nat)
 |ret
def thenK(next:AState->Prop)(Q:AExit->AState->Prop):AExit->AState->Prop
 | .normal,s=>next s
 | .exit i,s=>Q (.exit i) s
 | .ret,s=>Q .ret s
def blockK(id:Nat)(Q:AExit->AState->Prop):AExit->AState->Prop
 | .normal,s=>Q .normal s
 | .exit i,s=>match Nat.beq i id with
  |true=>Q .normal s
  |false=>Q (.exit i) s
 | .ret,s=>Q .ret s
def AEnt(P:Program)(s I:AState):Prop:=∀(E:FEnv) (σ:Sig) (a:Act) (w:World),E.ok->Rel P E s σ a w->∃σ',Rel P E I σ' a w
def ren:List (Nat×Nat)->Nat->Nat
 | [],l=>l
 |(i,j)::r,l=>match Nat.beq i l with
  |true=>j
  |false=>ren r l
def keptL(r:List (Nat×Nat)):List (Nat×AObj)->List Nat
 | []=>[]
 |(_,.gone)::k=>keptL r k
 |(l,_)::k=>ren r l::keptL r k
def frz0(kp:List Nat)(ob:List (Nat×AObj)):AV->AV
 | .own l=>match kp.contains l with
  |false=>frz1 (getO ob) (.own l)
  |true=>.own l
 | .ref l=>match kp.contains l with
  |false=>frz1 (getO ob) (.ref l)
  |true=>.ref l
 |v=>v
mutual
def entV(r:List (Nat×Nat))(kp:List Nat)(ob:List (Nat×AObj))(x:AV):AV->Prop
 | .junk=>True
 | .pv q=>match frz0 kp ob x with
  | .pv p=>PSub p q
  | .mix cs=>match pvL (cs.map (frz0 kp ob))with
   |some ps=>PSub (.agg ps) q
   |none=>False
  |_=>False
 | .ptr l off=>match x with
  | .ptr l' off'=>chk (Nat.beq (ren r l) l') (off'=off)
  |_=>False
 | .own l=>match x with
  | .own l'=>chk (Nat.beq (ren r l) l') True
  | .pv (.val (.slice none 0 0))=>chk (getO ob (ren r l)).isNone True
  |_=>False
 | .part l size i n=>match x with
  | .part l' size' i' n'=>chk (Nat.beq (ren r l) l') (chk (Nat.beq size' size) (i'=i∧n'=n))
  |_=>False
 | .ref l=>match x with
  | .ref l'=>chk (Nat.beq (ren r l) l') True
  |_=>False
 | .eptr _ _ _ _=>False
 | .clo dom isB gb gi=>x = .clo dom isB gb gi
 | .fn f caps=>match x with
  | .fn f' caps'=>f'=f∧entVs r kp ob caps' caps
  |_=>False
 | .mix cs=>match x with
  | .mix ds=>entVs r kp ob ds cs
  | .pv (.agg ps)=>entVs r kp ob (ps.map .pv) cs
  |_=>False
def entVs(r:List (Nat×Nat))(kp:List Nat)(ob:List (Nat×AObj)):List AV->List AV->Prop
 |ds,[]=>ds = []
 |ds,c::cs=>match ds with
  | []=>False
  |d::ds=>entV r kp ob d c∧entVs r kp ob ds cs
end
def entO(r:List (Nat×Nat))(kp:List Nat)(ob:List (Nat×AObj))(x:Option AObj)(y:AObj):Prop:=
 match y with
 | .gone=>True
 | .pbox cs=>match x with
  |some (.pbox ds)=>PSubs ds cs
  |some (.box ds)=>entVs r kp ob ds (cs.map .pv)
  |_=>False
 | .row size n f=>match x with
  |some (.row size' n' f')=>chk (Nat.beq size size') (n'=n∧∀i,i<n->PSubs (f' i) (f i))
  |none=>n=0
  |_=>False
 | .map kk look=>match x with
  |some (.map kk' look')=>kk'=kk∧∀k,kk.has k->look' k=look k
  |_=>False
 | .siter s p=>match x with
  |some (.siter s' p')=>s'=s∧p'=p
  |_=>False
 | .miter kk look seen=>match x with
  |some (.miter kk' look' seen')=>kk'=kk∧look'=look∧seen'=seen
  |_=>False
 | .box cs=>match x with
  |some (.pbox ds)=>entVs r kp ob (ds.map .pv) cs
  |some (.box ds)=>entVs r kp ob ds cs
  |_=>False
def entTs(r:List (Nat×Nat))(kp:List Nat)(ob:List (Nat×AObj))(tm:List (Nat×AV)):List (Nat×AV)->Prop
 | []=>True
 | [(t,y)]=>entV r kp ob (getT tm t) y
 |(t,y)::l=>entV r kp ob (getT tm t) y∧entTs r kp ob tm l
def entOs(r:List (Nat×Nat))(kp:List Nat)(ob:List (Nat×AObj)):List (Nat×AObj)->Prop
 | []=>True
 |(l,y)::k=>entO r kp ob (getO ob (ren r l)) y∧entOs r kp ob k
def wsT(ob:List (Nat×AObj)):List (Nat×AV)->Bool
 | []=>true
 |(_,v)::l=>(refs v).all (fun i=>(getO ob i).isSome)&&wsT ob l
def wsO(ob:List (Nat×AObj)):List (Nat×AObj)->Bool
 | []=>true
 |(_,o)::l=>(refsO o).all (fun i=>(getO ob i).isSome)&&wsO ob l
def goneB:AObj->Bool
 | .gone=>true
 |_=>false
theorem Zeo{o:AObj}(h:goneB o=true):o = .gone:=by cases o<;>first|rfl|cases h
def injO(r:List (Nat×Nat)):List (Nat×AObj)->Bool
 | []=>true
 |(l,o)::k=>k.all (fun x=>!Nat.beq l x.1&&(goneB o||goneB x.2 || !Nat.beq (ren r l) (ren r x.1)))&&injO r k
def pinB(r:List (Nat×Nat))(ob':List (Nat×AObj)):List (Nat×AObj)->Bool
 | []=>true
 |(l,_)::k=>match Nat.ble l 899999 with
  |true=>pinB r ob' k
  |false=>(getO ob' l).isSome&&Nat.beq (ren r l) l&&pinB r ob' k
theorem Zag{r:List (Nat×Nat)}{ob':List (Nat×AObj)}{l:Nat}(hl:900000<=l):∀ {ob:List (Nat×AObj)},pinB r ob' ob=true->getO ob l≠none->getO ob' l≠none∧ren r l=l
 | [],_,h=>(h rfl).elim
 |(i,o)::k,hp,h=>by
  rw[pinB]at hp;rw[Z0v]at h
  by_cases e:i=l
  ·subst e;have:Nat.ble i 899999=false:=by rw[<-Bool.not_eq_true,Nat.ble_eq];omega
   rw[this]at hp;simp only[qc]at hp;exact⟨fun hn=>(by have:=hp.1.1;rw[hn]at this;cases this),qg hp.1.2⟩
  rw[qJ e]at h
  split at hp
  ·exact Zag hl hp h
  simp only[qc]at hp;exact Zag hl hp.2 h
def entS(r:List (Nat×Nat))(s I:AState):Prop:=
 match s,I with
 |⟨tm,ob⟩,⟨tm',ob'⟩=>chk (wsT ob' tm'&&wsO ob' ob'&&pinB r ob' ob) (chk (injO r ob') (match ob' with
  | []=>entTs r [] ob tm tm'
  |ob'=>entOs r (keptL r ob') ob ob'∧entTs r (keptL r ob') ob tm tm'))
theorem Z4h:∀ {l:List (Nat×AV)} {t:Nat},getT l t = .junk∨∃v,(t,v)∈l∧getT l t=v
 | [],t=>.inl rfl
 |(i,v)::l,t=>by
  rw[Z0m]
  by_cases h:i=t
  ·subst h;rw[qK rfl];exact .inr ⟨v,by simp,rfl⟩
  rw[qJ h];rcases Z4h (l:=l) (t:=t)with h1|⟨u,h1,h2⟩
  ·exact .inl h1
  exact .inr ⟨u,by simp[h1],h2⟩
theorem Z1z:∀ {l:List (Nat×AObj)} {t:Nat} {o:AObj},getO l t=some o->(t,o)∈l
 | [],t,o,h=>by simp[getO]at h
 |(i,x)::l,t,o,h=>by
  rw[Z0v]at h
  split at h
  ·rename_i e;subst e;cases h;simp
  simp[Z1z h]
theorem Zdv{r:List (Nat×Nat)}{kp:List Nat}{ob:List (Nat×AObj)}{tm:List (Nat×AV)}:∀ {l:List (Nat×AV)},entTs r kp ob tm l->∀t v,(t,v)∈l->entV r kp ob (getT tm t) v
 | [(i,x)],h,t,v,hm=>by simp at hm;obtain⟨rfl,rfl⟩:=hm;exact h
 |(i,x)::y::l,h,t,v,hm=>by
  rcases qk.1 hm with e|hm
  ·cases e;exact h.1
  exact Zdv h.2 t v hm
theorem Zdu{r:List (Nat×Nat)}{kp:List Nat}{ob:List (Nat×AObj)}:∀ {l:List (Nat×AObj)},entOs r kp ob l->∀i o,(i,o)∈l->entO r kp ob (getO ob (ren r i)) o
 |(j,x)::l,h,i,o,hm=>by
  rcases qk.1 hm with e|hm
  ·cases e;exact h.1
  exact Zdu h.2 i o hm
theorem Z68{ob:List (Nat×AObj)}:∀ {l:List (Nat×AV)},wsT ob l=true->∀t v,(t,v)∈l->∀i∈refs v,getO ob i≠none
 |(j,x)::l,h,t,v,hm=>by
  simp only[wsT,qc]at h;rcases qk.1 hm with e|hm
  ·cases e;intro i hi hn;have:=qz.1 h.1 i hi;rw[hn]at this;cases this
  exact Z68 h.2 t v hm
theorem Z7x{ob:List (Nat×AObj)}:∀ {l:List (Nat×AObj)},wsO ob l=true->∀t o,(t,o)∈l->∀i∈refsO o,getO ob i≠none
 |(j,x)::l,h,t,v,hm=>by
  simp only[wsO,qc]at h;rcases qk.1 hm with e|hm
  ·cases e;intro i hi hn;have:=qz.1 h.1 i hi;rw[hn]at this;cases this
  exact Z7x h.2 t v hm
theorem Z3a{r:List (Nat×Nat)}{kp:List Nat}{ob:List (Nat×AObj)}:∀ {cs ds:List AV},entVs r kp ob ds cs->ds.length=cs.length∧∀(i:Nat) (c:AV),cs[i]? = some c->∃d,ds[i]? = some d∧entV r kp ob d c
 | [],ds,h=>by
  rw[entVs.eq_def]at h;dsimp only at h;subst h;exact⟨rfl,fun i c e=>by simp at e⟩
 |c::cs,ds,h=>by
  rw[entVs.eq_def]at h;dsimp only at h
  split at h
  ·exact h.elim
  rename_i d ds;obtain⟨h1,h2⟩:=Z3a h.2;refine⟨by simp[h1],fun i x e=>?_⟩;cases i with
  |zero=>simp at e;subst e;exact⟨d,by simp,h.1⟩
  |succ i=>obtain⟨y,h3,h4⟩:=h2 i x (by simpa using e);exact⟨y,by simpa using h3,h4⟩
theorem Zf0{r:List (Nat×Nat)}:∀ {l:List (Nat×AObj)},injO r l=true->∀i o j p,(i,o)∈l->(j,p)∈l->o≠.gone->p≠.gone->ren r i=ren r j->i=j
 |(k,x)::l,h,i,o,j,p,hi,hj,ho,hp,e=>by
  simp only[injO,qc]at h;have key:∀(m:Nat) (q:AObj),(m,q)∈l->x≠.gone->q≠.gone->ren r k≠ren r m:=by
   intro m q hm hx hq hh;have:=qz.1 h.1 (m,q) hm;simp only[qc,Bool.or_eq_true,Q2]at this;rcases this.2 with(h1|h1)|h1
   ·exact hx (Zeo h1)
   ·exact hq (Zeo h1)
   rw[hh]at h1;simp at h1
  rcases qk.1 hi with e1|hi<;>rcases qk.1 hj with e2|hj
  ·cases e1;cases e2;rfl
  ·cases e1;exact absurd e (key j p hj ho hp)
  ·cases e2;exact absurd e.symm (key i o hi hp ho)
  exact Zf0 h.2 i o j p hi hj ho hp e
structure EntCtx (P:Program) (w:World) (St M0:Nat->Prop) (σ σ':Sig) (r:List (Nat×Nat)) (kp:List Nat) (ob:List (Nat×AObj)):Prop where
 inv:Inv St M0 σ w
 mof:∀b,b<w.heap.size->Mof M0 σ' b->Mof M0 σ b
 sub:∀l loc,σ' l=some loc->getO ob (ren r l)≠none->σ (ren r l)=some loc∧ren r l∈kp
 nil:∀l loc,σ' l=some loc->getO ob (ren r l)=none->loc=⟨.slice none 0 0,none⟩
 nob:∀l,getO ob l=none->σ l=none
 ats:∀l o,getO ob l=some o->At P w St M0 σ l o
theorem Zek{P:Program}{w:World}{St M0:Nat->Prop}{σ σ':Sig}{r:List (Nat×Nat)}{kp:List Nat}{ob:List (Nat×AObj)}(h:EntCtx P w St M0 σ σ' r kp ob){x:AV}{p:PV}{v:Value}
  (hx:AR P w St (Mof M0 σ) σ x v) (hp:frz0 kp ob x = .pv p):PR w (Mof M0 σ') p v:=by
 have drop:∀l,l∉kp->∀b,b<w.heap.size->Mof M0 σ' b->Mof M0 (dropL σ [l]) b:=by
  intro l hl b _ hb;rcases hb with hb|⟨k,loc,h1,h2⟩
  ·exact .inl hb
  by_cases hn:getO ob (ren r k)=none
  ·rw[h.nil k loc h1 hn]at h2;cases h2
  obtain⟨h3,h4⟩:=h.sub k loc h1 hn;refine .inr ⟨ren r k,loc,?_,h2⟩;unfold dropL;rw[qJ]
  ·exact h3
  intro hm;rw[List.mem_singleton]at hm;exact hl (hm▸h4)
 unfold frz0 at hp
 split at hp
 ·rename_i l
  split at hp
  ·rename_i hc;have hl:l∉kp:=by intro hm;rw[List.contains_iff_mem.2 hm]at hc;cases hc
   have:=Z4e (L:=[l]) h.inv hx (fun k _ obj e=>h.ats k obj e) (fun k hk _=>by simpa[refs]using hk);rw[hp]at this;exact(arg_pv this).mono (Same.refl _ w) (drop l hl)
  cases hp
 ·rename_i l
  split at hp
  ·rename_i hc;have hl:l∉kp:=by intro hm;rw[List.contains_iff_mem.2 hm]at hc;cases hc
   have:=Z4e (L:=[l]) h.inv hx (fun k _ obj e=>h.ats k obj e) (fun k hk _=>by simpa[refs]using hk);rw[hp]at this;exact(arg_pv this).mono (Same.refl _ w) (drop l hl)
  cases hp
 subst hp;exact(arg_pv hx).mono (Same.refl _ w) h.mof
theorem Zq3{kp:List Nat}{ob:List (Nat×AObj)}{x:AV}{cs:List AV}(h:frz0 kp ob x = .mix cs):x = .mix cs:=by
 unfold frz0 at h
 split at h
 ·split at h
  ·unfold frz1 at h;simp only at h;split at h<;>cases h
  cases h
 ·split at h
  ·unfold frz1 at h;simp only at h;split at h<;>cases h
  cases h
 exact h
theorem Z6s{P:Program}{w:World}{St M0:Nat->Prop}{σ σ':Sig}{r:List (Nat×Nat)}{kp:List Nat}{ob:List (Nat×AObj)}(h:EntCtx P w St M0 σ σ' r kp ob) :
  ∀(y x:AV) (v:Value),entV r kp ob x y->AR P w St (Mof M0 σ) σ x v->(∀l∈refs x,getO ob l≠none)->AR P w St (Mof M0 σ') σ' y v
 | .junk,x,v,_,_,_=>.junk _
 | .pv q,x,v,hv,hx,_=>by
  rw[entV.eq_def]at hv;dsimp only at hv
  split at hv
  ·rename_i p hp;exact .pv _ _ (hv.to _ _ _ (Zek h hx hp))
  ·rename_i cs hm;have hm:=Zq3 hm;subst hm
   split at hv
   ·rename_i ps hps;refine .pv _ _ (hv.to _ _ _ ?_);obtain⟨hlen,hget⟩:=Z3m hps;cases hx with
    |mix _ vs hl hh h1=>
     refine .agg _ _ (by rw[hl,hlen,List.length_map]) (fun i p e=>?_) h1;have hp:=hget i p e;rw[qx]at hp;cases hc:cs[i]? with
     |none=>rw[hc]at hp;cases hp
     |some c=>
      rw[hc]at hp;simp only[Option.map_some,qw]at hp;exact Zek h (hh i c hc) hp
   exact hv.elim
  exact hv.elim
 | .ptr l off,x,v,hv,hx,hwt=>by
  rw[entV.eq_def]at hv;dsimp only at hv
  split at hv
  ·rename_i l' off';obtain⟨h1,rfl⟩:=Z02 hv;have h1:=qg h1;have hne:getO ob (ren r l)≠none:=by rw[h1];exact hwt l' (by simp[refs])
   refine .ptr _ _ _ fun loc hloc=>?_
   have h2:=(h.sub _ _ hloc hne).1;rw[h1]at h2;exact Z1n hx h2
  exact hv.elim
 | .own l,x,v,hv,hx,hwt=>by
  rw[entV.eq_def]at hv;dsimp only at hv
  split at hv
  ·rename_i l';obtain⟨h1,_⟩:=Z02 hv;have h1:=qg h1;have hne:getO ob (ren r l)≠none:=by rw[h1];exact hwt l' (by simp[refs])
   refine .own _ _ fun loc hloc=>?_
   have h2:=(h.sub _ _ hloc hne).1;rw[h1]at h2;exact Z0l hx h2
  ·obtain⟨h1,_⟩:=Z02 hv;refine .own _ _ fun loc hloc=>?_
   have h1:getO ob (ren r l)=none:=by simpa using h1
   rw[h.nil _ _ hloc h1];exact pr_val (arg_pv hx)
  exact hv.elim
 | .part l size i n,x,v,hv,hx,hwt=>by
  rw[entV.eq_def]at hv;dsimp only at hv
  split at hv
  ·rename_i l' size' i' n';obtain⟨h1,h3⟩:=Z02 hv;obtain⟨h4,h5,h6⟩:=Z02 h3;have h4:=qg h4;subst h4;subst h5;subst h6;have h1:=qg h1;have hne:getO ob (ren r l)≠none:=by rw[h1];exact hwt l' (by simp[refs])
   refine .part _ _ _ _ _ fun loc hloc=>?_
   have h2:=(h.sub _ _ hloc hne).1;rw[h1]at h2;exact Z6i hx h2
  exact hv.elim
 | .ref l,x,v,hv,hx,hwt=>by
  rw[entV.eq_def]at hv;dsimp only at hv
  split at hv
  ·rename_i l';obtain⟨h1,_⟩:=Z02 hv;have h1:=qg h1;have hne:getO ob (ren r l)≠none:=by rw[h1];exact hwt l' (by simp[refs])
   refine .ref _ _ fun loc hloc=>?_
   have h2:=(h.sub _ _ hloc hne).1;rw[h1]at h2;exact Z1w hx h2
  exact hv.elim
 | .eptr _ _ _ _,x,v,hv,hx,hwt=>by rw[entV.eq_def]at hv;exact hv.elim
 | .clo dom isB gb gi,x,v,hv,hx,hwt=>by
  rw[entV.eq_def]at hv;dsimp only at hv;subst hv;exact hx.mono (Same.refl _ w) h.mof (fun _ _ _=>rfl) (fun l hl=>by simp[refs]at hl)
 | .fn f caps,x,v,hv,hx,hwt=>by
  rw[entV.eq_def]at hv;dsimp only at hv
  split at hv
  ·rename_i f' caps';obtain⟨rfl,hv⟩:=hv;obtain⟨h1,h2⟩:=Z3a hv;cases hx with
   |fn _ _ vs hl hh=>
    refine .fn _ _ vs (by rw[hl,h1]) (fun i c e=>?_);obtain⟨d,hd,he⟩:=h2 i c e;have:SizeOf.sizeOf c<SizeOf.sizeOf caps:=List.sizeOf_lt_of_mem (List.mem_of_getElem? e);exact Z6s h c d _ he (hh i d hd) (fun l hl=>hwt l (by simp only[refs];exact Z07 hd l hl))
  exact hv.elim
 | .mix cs,x,v,hv,hx,hwt=>by
  rw[entV.eq_def]at hv;dsimp only at hv
  split at hv
  ·rename_i ds;obtain⟨h1,h2⟩:=Z3a hv;cases hx with
   |mix _ vs hl hh h3=>
    refine .mix _ vs (by rw[hl,h1]) (fun i c e=>?_) h3;obtain⟨d,hd,he⟩:=h2 i c e;have:SizeOf.sizeOf c<SizeOf.sizeOf cs:=List.sizeOf_lt_of_mem (List.mem_of_getElem? e);exact Z6s h c d _ he (hh i d hd) (fun l hl=>hwt l (by simp only[refs];exact Z07 hd l hl))
  ·rename_i ps;obtain⟨h1,h2⟩:=Z3a hv;obtain⟨vs,rfl,hl,hh,h3⟩:=pr_agg (arg_pv hx);refine .mix _ vs (by rw[hl,<-h1];simp) (fun i c e=>?_) h3;obtain⟨d,hd,he⟩:=h2 i c e;have:SizeOf.sizeOf c<SizeOf.sizeOf cs:=List.sizeOf_lt_of_mem (List.mem_of_getElem? e);rw[qx]at hd;cases hq:ps[i]? with
   |none=>rw[hq]at hd;cases hd
   |some q=>
    rw[hq]at hd;cases hd;exact Z6s h c (.pv q) _ he (.pv _ _ (hh i q hq)) (fun l hl=>by simp[refs]at hl)
  exact hv.elim
termination_by y=>SizeOf.sizeOf y
decreasing_by all_goals simp_wf;omega
theorem Z0j{P:Program}{r:List (Nat×Nat)}{s I:AState}(h:entS r s I):AEnt P s I:=by
 obtain⟨tm,ob⟩:=s;obtain⟨tm',ob'⟩:=I;intro E σ a w hE hR;unfold entS at h;obtain⟨hws,h⟩:=Z02 h;rw[qc,qc]at hws;obtain⟨⟨hws,hwo⟩,hpin⟩:=hws;obtain⟨hinj,h⟩:=Z02 h;have hO:entOs r (keptL r ob') ob ob'∧entTs r (keptL r ob') ob tm tm':=by
  cases ob' with
  |nil=>exact⟨trivial,h⟩
  |cons x l=>exact h
 obtain⟨hO,hT⟩:=hO
 let σ':Sig:=fun l=>match getO ob' l with
  |some .gone=>none
  |some _=>match getO ob (ren r l)with
   |none=>some ⟨.slice none 0 0,none⟩
   |some _=>σ (ren r l)
  |none=>none
 have hsub0:∀l loc,σ' l=some loc->∃o,getO ob' l=some o∧o≠.gone∧(σ (ren r l)=some loc∨(getO ob (ren r l)=none∧loc=⟨.slice none 0 0,none⟩)):=by
  intro l loc e;simp only[σ']at e
  split at e
  ·cases e
  ·rename_i o hne hg
   split at e
   ·rename_i hn;cases e;exact⟨o,hg,fun hh=>hne hh,.inr ⟨hn,rfl⟩⟩
   exact⟨o,hg,fun hh=>hne hh,.inl e⟩
  cases e
 have hsub:∀l loc,σ' l=some loc->getO ob (ren r l)≠none->σ (ren r l)=some loc:=by
  intro l loc e hne;obtain⟨_,_,_,h1⟩:=hsub0 l loc e;rcases h1 with h1|⟨h1,_⟩
  ·exact h1
  exact absurd h1 hne
 have hown:∀b,owned σ' b->owned σ b:=fun b ⟨l,loc,e,hb⟩=>by
  obtain⟨_,_,_,h1⟩:=hsub0 l loc e;rcases h1 with h1|⟨_,h1⟩
  ·exact⟨ren r l,loc,h1,hb⟩
  subst h1;cases hb
 have hmof:∀b,b<w.heap.size->Mof E.M0 σ' b->Mof E.M0 σ b:=fun b _ hb=>hb.elim .inl (fun h=>.inr (hown b h))
 have hpv:∀(p:PV) (v:Value),PR w (Mof E.M0 σ) p v->PR w (Mof E.M0 σ') p v:=fun p v hp=>hp.mono (Same.refl _ w) hmof
 have hctx:EntCtx P w E.St E.M0 σ σ' r (keptL r ob') ob:=by
  refine⟨hR.inv hE,hmof,fun l loc e hne=>⟨hsub l loc e hne,?_⟩,fun l loc e hn=>?_,hR.nob,hR.ob⟩
  ·obtain⟨o,h1,h2,_⟩:=hsub0 l loc e;have key:∀ {ob':List (Nat×AObj)},(l,o)∈ob'->ren r l∈keptL r ob':=by
    intro ob' hm
    induction ob' with
    |nil=>simp at hm
    |cons x k ih=>
     rcases qk.1 hm with e|hm
     ·subst e;cases o<;>first|exact absurd rfl h2|simp[keptL]
     have:=ih hm;obtain⟨i,q⟩:=x;cases q<;>simp[keptL,this]
   exact key (Z1z h1)
  obtain⟨_,_,_,h1⟩:=hsub0 l loc e;rcases h1 with h1|⟨_,h1⟩
  ·rw[hR.nob _ hn]at h1;cases h1
  exact h1
 have relV:=Z6s hctx;refine⟨σ',hR.sz,hR.df,fun t=>?_,fun l o e=>?_,fun l e=>?_,fun t l hl=>?_,fun i o e l hl=>?_,?_,fun b hb=>hR.own b (hown b hb),hR.ext,fun l loc e=>?_⟩
 ·rcases Z4h (l:=tm') (t:=t)with e|⟨v,hm,e⟩
  ·simp only[e];exact .junk _
  simp only[e];exact relV _ _ _ (Zdv hT t v hm) (hR.tm t) (hR.wt t)
 ·have hm:=Z1z e;have ho:=Zdu hO l o hm
  by_cases hg:o = .gone
  ·subst hg;show σ' l=none;simp only[σ',e]
  have hσ:getO ob (ren r l)≠none->σ' l=σ (ren r l):=by
   intro hne;cases hx:getO ob (ren r l)with
   |none=>exact absurd hx hne
   |some x=>simp only[σ',e,hx]
  have fin:∀(x:AObj),getO ob (ren r l)=some x->x≠.gone->(∀loc,OR P w E.St (Mof E.M0 σ) σ x loc->OR P w E.St (Mof E.M0 σ') σ' o loc)->At P w E.St E.M0 σ' l o:=by
   intro x hx hxg hor;obtain⟨loc,h1,h2⟩:=Z0q (hR.ob _ x hx) hxg;have h3:=hor loc h2;rw[<-hσ (by rw[hx];simp)]at h1;cases o<;>first|exact⟨loc,h1,h3⟩|exact absurd rfl hg
  unfold entO at ho
  split at ho
  ·exact absurd rfl hg
  ·rename_i cs
   split at ho
   ·rename_i ds hx;refine fin _ hx (by simp) fun loc hor=>?_
    cases hor with
    |pbox _ b vs t hb hl hh h1=>
     refine .pbox _ b vs t hb (hl.trans ho.length) (fun i p e'=>?_) h1;obtain⟨q,hq,hs⟩:=ho.get i p e';exact hpv _ _ (hs.to _ _ _ (hh i q hq))
   ·rename_i ds hx;obtain⟨h1,h2⟩:=Z3a ho;refine fin _ hx (by simp) fun loc hor=>?_
    cases hor with
    |box _ b vs t hb hl hh h3=>
     refine .pbox _ b vs t hb (by rw[hl,h1];simp) (fun i p e'=>?_) h3;obtain⟨d,hd,hv⟩:=h2 i (.pv p) (by rw[qx,e'];rfl);exact arg_pv (relV _ _ _ hv (hh i d hd) (fun l hl=>hR.wo _ _ hx l (by simp only[refsO];exact Z07 hd l hl)))
   exact ho.elim
  ·rename_i size n f
   split at ho
   ·rename_i size' n' f' hx;obtain⟨h1,rfl,h2⟩:=Z02 ho;have h1:=qg h1;subst h1;refine fin _ hx (by simp) fun loc hor=>?_
    cases hor with
    |row0 _ _ a=>exact .row0 _ _ a
    |row _ _ _ b cap vs t hb hn hmax hsz hs hh h3=>
     refine .row _ _ _ b cap vs t hb hn hmax hsz (fun i hi=>(h2 i hi).length▸hs i hi) (fun i hi j p e'=>?_) h3;obtain⟨q,hq,hs'⟩:=(h2 i hi).get j p e';exact hpv _ _ (hs'.to _ _ _ (hh i hi j q hq))
   ·rename_i hx;subst ho;exact⟨⟨.slice none 0 0,none⟩,by simp only[σ',e,hx],.row0 _ _ none⟩
   exact ho.elim
  ·rename_i kk look
   split at ho
   ·rename_i kk' look' hx;obtain⟨rfl,ho⟩:=ho;refine fin _ hx (by simp) fun loc hor=>?_
    cases hor with
    |map _ _ rr es clock em ev hr hk hf hh hn=>exact .map _ _ rr es clock em ev hr hk (fun k p h1 h2=>hf k p h1 ((ho k h1).trans h2)) (fun k p h1 h2=>hpv _ _ (hh k p h1 ((ho k h1).trans h2))) (fun k h1 h2=>hn k h1 ((ho k h1).trans h2))
   exact ho.elim
  ·rename_i s p
   split at ho
   ·rename_i s' p' hx;obtain⟨rfl,rfl⟩:=ho;refine fin _ hx (by simp) fun loc hor=>?_
    cases hor with
    |siter _ _ rr hr=>exact .siter _ _ rr hr
   exact ho.elim
  ·rename_i kk look seen
   split at ho
   ·rename_i kk' look' seen' hx;obtain⟨rfl,rfl,rfl⟩:=ho;refine fin _ hx (by simp) fun loc hor=>?_
    cases hor with
    |miter _ _ _ rr m es clock sb hr hp hmm hM hs hl=>exact .miter _ _ _ rr m es clock sb hr (hpv _ _ hp) hmm (fun h=>hM (hmof m (Z0e hmm) h)) hs hl
   exact ho.elim
  rename_i cs
  split at ho
  ·rename_i ds hx;obtain⟨h1,h2⟩:=Z3a ho;refine fin _ hx (by simp) fun loc hor=>?_
   cases hor with
   |pbox _ b vs t hb hl hh h3=>
    refine .box _ b vs t hb (by rw[hl,<-h1];simp) (fun i c e'=>?_) h3;obtain⟨d,hd,hv⟩:=h2 i c e';rw[qx]at hd;cases hq:ds[i]? with
    |none=>rw[hq]at hd;cases hd
    |some q=>rw[hq]at hd;cases hd;exact relV _ _ _ hv (.pv _ _ (hh i q hq)) (fun l hl=>by simp[refs]at hl)
  ·rename_i ds hx;obtain⟨h1,h2⟩:=Z3a ho;refine fin _ hx (by simp) fun loc hor=>?_
   cases hor with
   |box _ b vs t hb hl hh h3=>
    refine .box _ b vs t hb (by rw[hl,<-h1]) (fun i c e'=>?_) h3;obtain⟨d,hd,hv⟩:=h2 i c e';exact relV _ _ _ hv (hh i d hd) (fun l hl=>hR.wo _ _ hx l (by simp only[refsO];exact Z07 hd l hl))
  exact ho.elim
 ·show σ' l=none
  simp only[σ',show getO ob' l=none from e]
 ·rcases Z4h (l:=tm') (t:=t)with e|⟨v,hm,e⟩
  ·simp only[e]at hl;simp[refs]at hl
  simp only[e]at hl;exact Z68 hws t v hm l hl
 ·exact Z7x hwo i o (Z1z e) l hl
 ·intro l l' loc loc' b e e' hb hb';obtain⟨o,h1,g1,h2⟩:=hsub0 l loc e;obtain⟨o',h1',g1',h2'⟩:=hsub0 l' loc' e';rcases h2 with h2|⟨_,h2⟩
  case inr=>subst h2;cases hb
  rcases h2' with h2'|⟨_,h2'⟩
  case inr=>subst h2';cases hb'
  exact Zf0 hinj l o l' o' (Z1z h1) (Z1z h1') g1 g1' (hR.sep _ _ _ _ b h2 h2' hb hb')
 obtain⟨h1,h2⟩:=hR.pn l loc e;obtain⟨h3,h4⟩:=Zag (hE.pn l loc e) hpin h1;refine⟨h3,fun loc' e'=>h2 loc' ?_⟩;have:=hsub l loc' e' (by rw[h4];exact h1);rw[h4]at this;exact this
def awp(P:Program)(T:Tab)(nt:Nat):Code->AState->(AExit->AState->Prop)->Prop
 | .skip,s,Q=>Q .normal s
 | .region _ ops false,s,Q=>arun P T nt ops.toList ops.toList s (Q .normal)
 | .region _ ops true,s,Q=>drawOk ops.toList=true∧arunD P T nt ops.toList ops.toList s [] (fun s log=>logOk ops.toList log=true∧Q .normal s)
 | .seq x y,s,Q=>awp P T nt x s (thenK (fun s=>awp P T nt y s Q) Q)
 | .cond c x y,s,Q=>match s with
  |⟨tm,ob⟩=>match evO tm c with
   | .pv (.val (.bool b))=>(match b with|true=>awp P T nt x ⟨tm,ob⟩ Q|false=>awp P T nt y ⟨tm,ob⟩ Q)
   | .pv (.sb b)=>(b=true->awp P T nt x ⟨tm,ob⟩ Q)∧(b=false->awp P T nt y ⟨tm,ob⟩ Q)
   |_=>False
 | .block id c,s,Q=>awp P T nt c s (blockK id Q)
 | .loop c,s,Q=>∃(ι:Type) (J:ι->Prop) (I:ι->AState) (m:ι->Nat) (i0:ι) (r:List (Nat×Nat)),J i0∧entS r s (I i0)∧
   ∀i,J i->awp P T nt c (I i) (thenK (fun s'=>∃(j:ι) (r:List (Nat×Nat)),J j∧m j<m i∧entS r s' (I j)) Q)
 | .exit id,s,Q=>Q (.exit id) s
 | .ret,s,Q=>Q .ret s
 |_,_,_=>False
section
variable {P:Program} {T:Tab} {E:FEnv}
theorem Z9g(p:Nat->Prop)(h:∃n,p n):∃n,p n∧∀k,p k->n<=k:=by
 obtain⟨n,hn⟩:=h
 induction n using Nat.strongRecOn with
 |_ n ih=>
  by_cases hk:∃k,k<n∧p k
  ·obtain⟨k,hlt,hp⟩:=hk;exact ih k hlt hp
  exact⟨n,hn,fun k hp=>Nat.le_of_not_lt fun hlt=>hk ⟨k,hlt,hp⟩⟩
open Classical in
noncomputable def leastOf(p:Nat->Prop):Nat:=if h:∃n,p n then Classical.choose (Z9g p h)else 0
theorem Zfu{p:Nat->Prop}(h:∃n,p n):p (leastOf p)∧∀k,p k->leastOf p<=k:=by
 unfold leastOf;rw[dif_pos h];exact Classical.choose_spec (Z9g p h)
theorem Zj0{ι:Type}{c:Code}{Q:Exit->Act->World->Prop}{a:Act}{w:World}{I:ι->Act->World->Prop}(m:ι->Nat){i0:ι}(h0:I i0 a w)
  (round:∀i a w,I i a w->c.wp P (Exit.then (fun a' w'=>∃j,I j a' w'∧m j<m i) Q) a w):(Code.loop c).wp P Q a w:=by
 refine wp_loop (fun a w=>∃i,I i a w) (fun a w=>leastOf fun n=>∃i,m i=n∧I i a w) ⟨i0,h0⟩ (fun a w ⟨i,hi⟩=>?_);obtain⟨⟨k,hk,hI⟩,hmin⟩:=Zfu (p:=fun n=>∃i,m i=n∧I i a w) ⟨m i,i,rfl,hi⟩;refine wp_mono (round k a w hI) (fun e a' w' he=>?_);cases e with
 |normal=>
  obtain⟨j,hj,hlt⟩:=he;refine⟨⟨j,hj⟩,?_⟩;have:=(Zfu (p:=fun n=>∃i,m i=n∧I i a' w') ⟨m j,j,rfl,hj⟩).2 (m j) ⟨j,rfl,hj⟩;omega
 |exit i=>exact he
 |ret=>exact he
 |goto l=>exact he
 |panic c=>exact he
 |outgrown=>exact he
def exitQ(P:Program)(E:FEnv)(Q:AExit->AState->Prop):Exit->Act->World->Prop
 | .normal,a,w=>∃s σ,Q .normal s∧Rel P E s σ a w
 | .exit i,a,w=>∃s σ,Q (.exit i) s∧Rel P E s σ a w
 | .ret,a,w=>∃s σ,Q .ret s∧Rel P E s σ a w
 |_,_,_=>False
theorem RelF.drew{tmf:Nat->AV}{obf:Nat->Option AObj}{σ:Sig}{a:Act}{w:World}(h:RelF P E tmf obf σ a w)(n:Nat)(hn:w.drawn<=n):RelF P E tmf obf σ a { w with drawn:=n }:=by
 have hs:∀M:Nat->Prop,Same M w { w with drawn:=n }:=fun M=>⟨qL _,fun _ _ _=>rfl⟩
 refine⟨h.sz,h.df,fun t=>(h.tm t).mono (hs _) (fun _ _ h=>h) (fun _ _ _=>rfl) (fun _ _ _ e=>e),fun l o e=>?_,h.nob,h.wt,h.wo,h.sep,h.own,⟨h.ext.os,h.ext.tape,h.ext.output,h.ext.size,h.ext.block,qF h.ext.drawn hn⟩,h.pn⟩;have h1:=h.ob l o e
 by_cases hg:o = .gone
 ·subst hg;exact h1
 obtain⟨loc,h2,h3⟩:=Z0q h1 hg;have h4:OR P { w with drawn:=n } E.St (Mof E.M0 σ) σ o loc:=h3.mono (hs _) (fun _ _ h=>h) (fun _ _ _=>rfl) (fun _ _ _ e=>e) (fun _ _=>rfl);cases o<;>first|exact⟨loc,h2,h4⟩|exact absurd rfl hg
theorem Z13(hE:E.ok)(hT:T.ok P)(hm:P.follows .mixedOrders=true):∀(c:Code) (s:AState) (Q:AExit->AState->Prop) (σ:Sig) (a:Act) (w:World),Rel P E s σ a w->awp P T E.nt c s Q->c.wp P (exitQ P E Q) a w
 | .skip,s,Q,σ,a,w,hR,h=>wp_skip ⟨s,σ,h,hR⟩
 | .region id ops dr,s,Q,σ,a,w,hR,h=>by
  cases dr with
  |false=>
   refine wp_region ?_;have:=Z92 hE hT (Q:=exitQ P E Q) (fun s σ a w hs hR=>⟨s,σ,hs,hR⟩) ops.toList 0 s σ a w (fun j=>by simp) hR h;rw[List.range_eq_range'];simpa using this
  |true=>
   obtain⟨h1,h2⟩:=h;exact wp_region_any hm (Zd0 hE hT h1 (fun s σ a w hs hR=>⟨s,σ,hs,hR⟩) (RelF.drew hR _ (Nat.le_succ _)) h2)
 | .seq x y,s,Q,σ,a,w,hR,h=>by
  refine wp_seq (wp_mono (Z13 hE hT hm x s _ σ a w hR h) (fun e a' w' he=>?_));cases e with
  |normal=>obtain⟨s',σ',hq,hR'⟩:=he;exact Z13 hE hT hm y s' Q σ' a' w' hR' hq
  |exit i=>exact he
  |ret=>exact he
  |goto l=>exact he.elim
  |panic c=>exact he.elim
  |outgrown=>exact he.elim
 | .cond c x y,s,Q,σ,a,w,hR,h=>by
  obtain⟨tm,ob⟩:=s;have hc:=Z49 hE hR c;unfold awp at h;simp only at h
  split at h
  ·rename_i b hb;rw[show evO tm c = .pv (.val (.bool b))from hb]at hc;have hv:=pr_val (arg_pv hc);refine wp_cond hv ?_;cases b with
   |true=>exact Z13 hE hT hm x _ Q σ a w hR h
   |false=>exact Z13 hE hT hm y _ Q σ a w hR h
  ·rename_i b hb;rw[show evO tm c = .pv (.sb b)from hb]at hc;have hv:=pr_sb (arg_pv hc);refine wp_cond hv ?_;cases b with
   |true=>exact Z13 hE hT hm x _ Q σ a w hR (h.1 rfl)
   |false=>exact Z13 hE hT hm y _ Q σ a w hR (h.2 rfl)
  exact h.elim
 | .block id c,s,Q,σ,a,w,hR,h=>by
  refine wp_block (wp_mono (Z13 hE hT hm c s _ σ a w hR h) (fun e a' w' he=>?_));cases e with
  |normal=>exact he
  |exit i=>
   obtain⟨s',σ',hq,hR'⟩:=he;have hq:(match Nat.beq i id with|true=>Q .normal s'|false=>Q (.exit i) s'):=hq;simp only[Exit.inBlock];cases hb:Nat.beq i id with
   |true=>
    rw[hb]at hq;rw[qK (qg hb)];exact⟨s',σ',hq,hR'⟩
   |false=>
    rw[hb]at hq;rw[qJ (fun e=>by rw[e]at hb;simp at hb)];exact⟨s',σ',hq,hR'⟩
  |ret=>exact he
  |goto l=>exact he.elim
  |panic c=>exact he.elim
  |outgrown=>exact he.elim
 | .loop c,s,Q,σ,a,w,hR,h=>by
  obtain⟨ι,J,I,m,i0,r0,hJ,hent,hround⟩:=h;obtain⟨σ0,hR0⟩:=Z0j hent E σ a w hE hR;refine Zj0 (I:=fun i a w=>J i∧∃σ,Rel P E (I i) σ a w) m (i0:=i0) ⟨hJ,σ0,hR0⟩ (fun i a w ⟨hj,σ,hr⟩=>?_);refine wp_mono (Z13 hE hT hm c (I i) _ σ a w hr (hround i hj)) (fun e a' w' he=>?_);cases e with
  |normal=>
   obtain⟨s',σ',⟨j,r',hj',hlt,hent'⟩,hR'⟩:=he;obtain⟨σ2,hR2⟩:=Z0j hent' E σ' a' w' hE hR';exact⟨j,⟨hj',σ2,hR2⟩,hlt⟩
  |exit i=>exact he
  |ret=>exact he
  |goto l=>exact he.elim
  |panic c=>exact he.elim
  |outgrown=>exact he.elim
 | .exit id,s,Q,σ,a,w,hR,h=>wp_exit ⟨s,σ,h,hR⟩
 | .ret,s,Q,σ,a,w,hR,h=>wp_ret ⟨s,σ,h,hR⟩
 | .rangeFunc ..,s,Q,σ,a,w,hR,h=>h.elim
 | .scope _,s,Q,σ,a,w,hR,h=>h.elim
 | .label _,s,Q,σ,a,w,hR,h=>h.elim
 | .goto _,s,Q,σ,a,w,hR,h=>h.elim
 | .refuse _,s,Q,σ,a,w,hR,h=>h.elim
end
end Go.Abs
namespace Go.Abs
open Go.RowKit
variable [Globals]
def argTm:Nat->List AV->List (Nat×AV)
 |_,[]=>[]
 |i,a::l=>(i,a)::argTm (i+1) l
theorem Z1v:∀ {l:List AV} {i t:Nat},getT (argTm i l) t=if t<i then .junk else(l[t-i]?).getD .junk
 | [],i,t=>by simp[argTm,getT]
 |a::l,i,t=>by
  simp only[argTm,Z0m];rw[Z1v (l:=l) (i:=i+1) (t:=t)]
  by_cases h:i=t
  ·subst h;simp
  rw[qJ h]
  by_cases h1:t<i
  ·rw[qK (by omega),qK h1]
  rw[qJ (by omega),qJ h1];have:t-i=(t-(i+1))+1:=by omega
  rw[this,List.getElem?_cons_succ]
def resOK(s:AState)(x:AV)(p:PV):Prop:=
 match s with
 |⟨_,ob⟩=>match borrowV (getO ob) x with
  | .pv q=>PSub q p
  |_=>False
def resV(T:Tab)(s:AState)(rv:ResultVar)(p:PV):Prop:=
 match rv with
 | .tmp t=>match s with
  |⟨tm,ob⟩=>resOK ⟨tm,ob⟩ (getT tm t) p
 | .cell a ty=>match s with
  |⟨tm,ob⟩=>match T ty with
   |some y=>match getT tm a with
    | .ptr l off=>match getO ob l with
     |some (.pbox cs)=>loadP y cs off fun q=>PSub q p
     |some (.box cs)=>chk (aggD y.und) (chk (Nat.ble (off+y.info.size) cs.length) (match pvL (borrowV.borrowL (getO ob) ((cs.drop off).take y.info.size))with
      |some ps=>PSub (.agg ps) p
      |none=>False))
     |_=>False
    |_=>False
   |none=>False
def resQ(T:Tab)(rs:List ResultVar)(res:PV)(s:AState):Prop:=
 match rs with
 | []=>res = .tup []
 | [a]=>resV T s a res
 | [a,b]=>match res with
  | .tup [p,q]=>resV T s a p∧resV T s b q
  |_=>False
 | [a,b,c]=>match res with
  | .tup [p,q,r]=>resV T s a p∧resV T s b q∧resV T s c r
  |_=>False
 | [a,b,c,d]=>match res with
  | .tup [p,q,r,z]=>resV T s a p∧resV T s b q∧resV T s c r∧resV T s d z
  |_=>False
 |_=>False
def pureQ(T:Tab)(fn:Func)(res:PV):AExit->AState->Prop
 | .exit _,_=>False
 | .normal,s=>resQ T fn.results.toList res s
 | .ret,s=>resQ T fn.results.toList res s
theorem Ztg{P:Program}{E:FEnv}(hE:E.ok){s:AState}{σ:Sig}{a:Act}{w:World}(hR:Rel P E s σ a w){t:Nat}{p:PV}(h:resOK s (getT s.tm t) p):PR w E.M0 p (a.tmps.getD t undef):=by
 obtain⟨tm,ob⟩:=s;unfold resOK at h;have hA:=Z45 (ob:=getO ob) (L:=refs (getT tm t)) (hR.inv hE) (hR.tm t) (fun l hl=>hl) (fun l _ obj e=>hR.ob l obj e);simp only at h
 split at h
 ·rename_i q hq;rw[hq]at hA;exact h.to _ _ _ ((arg_pv hA).mono (Same.refl _ w) (fun b _ hb=>.inl hb))
 exact h.elim
def rvRun(tmps:Array Value):ResultVar->Sem Value
 | .tmp t=>pure (tmps.getD t undef)
 | .cell a t=>do loadVar t (<-asAddr (tmps.getD a undef))
theorem Z3p{fn:Func}{tmps:Array Value}{l:List ResultVar}(h:fn.results.toList=l):results fn tmps=(do let vs<-l.toArray.mapM (rvRun tmps);pure (if h:vs.size=1 then vs[0]else .tuple vs)):=by
 have:fn.results=l.toArray:=by rw[<-h]
 unfold results;rw[this];rfl
theorem Z23{P:Program}{T:Tab}{E:FEnv}(hE:E.ok)(hT:T.ok P){s:AState}{σ:Sig}{a:Act}{w:World}(hR:Rel P E s σ a w){rv:ResultVar}{p:PV}(h:resV T s rv p):∃v,(rvRun a.tmps rv).run P w = .ok v w∧PR w E.M0 p v:=by
 obtain⟨tm,ob⟩:=s;cases rv with
 |tmp t=>exact⟨_,rfl,Ztg hE hR h⟩
 |cell x ty=>
  unfold resV at h;simp only at h
  split at h
  ·rename_i y hy
   split at h
   ·rename_i l off hx
    split at h
    ·rename_i cs hob;obtain⟨q,hs,hq⟩:=Z5l h;obtain⟨b,vs,t',hl,hb,hsz,hp,hone⟩:=Z44 (hR.ob l _ hob);have hA:=hR.tm x;rw[show getT tm x = .ptr l off from hx]at hA;obtain⟨b',hb',hv⟩:=Z1n hA hl;cases hb';obtain⟨v,hr,hpv⟩:=Z7o hT hy (Cells.pbox hb hsz hp hone) hq;rw[Z2b]at hr;refine⟨v,?_,hs.to _ _ _ (hpv.mono (Same.refl _ w) (fun b _ hb=>.inl hb))⟩;have hv':a.tmps[x]?.getD undef = .pointer (some ⟨b,off,none⟩):=by rw[<-hv];simp[qb]
     simp[rvRun,asAddr,hv',hr]
    ·rename_i cs hob;obtain⟨hd,h⟩:=Z02 h;obtain⟨hfit,h⟩:=Z02 h;have hfit:=qi hfit
     split at h
     ·rename_i ps hps;obtain⟨b,vs,t',hl,hb,hs,hq,hone⟩:=at_box (hR.ob l _ hob);have hA:=hR.tm x;rw[show getT tm x = .ptr l off from hx]at hA;obtain⟨b',hb',hv⟩:=Z1n hA hl;cases hb';obtain⟨hin,hu,_⟩:=hT ty y hy;have hagg:(isAgg ty).run P w = .ok true w:=by
       unfold aggD at hd
       split at hd
       ·rename_i e;simp[isAgg,run_underlying (e▸hu)]
       ·rename_i e;simp[isAgg,run_underlying (e▸hu)]
       ·cases hd
      have hsz:(sizeOf ty).run P w = .ok y.info.size w:=by simp[sizeOf,Z0o hin]
      have hload:=run_loadCells (P:=P) w ⟨b,off,none⟩ y.info.size (fun j=>vs.getD (off+j) undef) (fun j hj=>by
       have hlt:off+j<vs.size:=by omega
       have hadd:(⟨b,off,none⟩:Addr).add j=⟨b,off+j,none⟩:=by unfold Addr.add;split<;>simp_all
       rw[hadd];simp[World.cell?,hb,Array.getD,hlt])
      have hv':a.tmps[x]?.getD undef = .pointer (some ⟨b,off,none⟩):=by rw[<-hv];simp[qb]
      refine⟨.agg ((List.range y.info.size).map fun j=>vs.getD (off+j) undef).toArray,by simp[rvRun,asAddr,hv',loadVar,hagg,hsz,hload],h.to _ _ _ ?_⟩;obtain⟨hpl,hpg⟩:=Z3m hps;have hbl:∀(cs:List AV),borrowV.borrowL (getO ob) cs=cs.map (borrowV (getO ob)):=fun cs=>by
       induction cs with
       |nil=>rfl
       |cons c cs ih=>rw[borrowV.borrowL,ih];rfl
      rw[hbl]at hpl hpg;have hlen:((cs.drop off).take y.info.size).length=y.info.size:=by simp;omega
      rw[List.length_map,hlen]at hpl;have hcell:∀i,i<y.info.size->(((List.range y.info.size).map fun j=>vs.getD (off+j) undef).toArray.getD i undef)=vs.getD (off+i) undef:=fun i hi=>by simp[Array.getD,hi]
      refine .agg _ _ (by simp[hpl]) (fun i p e=>?_) (fun i hi=>?_)
      ·have e2:=hpg i p e;have hi:i<y.info.size:=by rw[<-hpl];exact(qf.1 e).1
       rw[qx,qm,qK hi,qA]at e2;rw[hcell i hi];cases hc:cs[off+i]? with
       |none=>rw[hc]at e2;cases e2
       |some c=>
        rw[hc]at e2;simp only[Option.map_some,qw]at e2;have hA:=Z45 (ob:=getO ob) (L:=refs c) (hR.inv hE) (hq _ c hc) (fun l hl=>hl) (fun k hk obj e3=>hR.ob k obj e3);rw[e2]at hA;exact(arg_pv hA).mono (Same.refl _ w) (fun b _ hb=>.inl hb)
      ·have hi2:i<y.info.size:=by simpa using hi
       rw[hcell i hi2];exact hone _ (by omega)
     ·exact h.elim
    ·exact h.elim
   ·exact h.elim
  ·exact h.elim
theorem Z7k{P:Program}{T:Tab}{E:FEnv}(hE:E.ok)(hT:T.ok P){s:AState}{σ:Sig}{a:Act}{w:World}(hR:Rel P E s σ a w){fn:Func}{res:PV}(h:resQ T fn.results.toList res s) :
  ∃v,(results fn a.tmps).run P w = .ok v w∧PR w E.M0 res v:=by
 unfold resQ at h
 split at h
 ·rename_i hr;exact⟨.tuple #[],by rw[Z3p hr];simp,by rw[h];exact .tup [] #[] rfl (fun i p e=>by simp at e)⟩
 ·rename_i x hr;obtain⟨v,h1,h2⟩:=Z23 hE hT hR h;exact⟨v,by rw[Z3p hr];simp[h1],h2⟩
 ·rename_i x y hr
  split at h
  ·rename_i p q;obtain⟨h1,h2⟩:=h;obtain⟨v1,r1,p1⟩:=Z23 hE hT hR h1;obtain⟨v2,r2,p2⟩:=Z23 hE hT hR h2;refine⟨.tuple #[v1,v2],by rw[Z3p hr];simp[r1,r2],.tup _ _ rfl (fun i x e=>?_)⟩
   match i,e with
   |0,e=>simp at e;subst e;exact p1
   |1,e=>simp at e;subst e;exact p2
   |i+2,e=>simp at e
  exact h.elim
 ·rename_i x y z hr
  split at h
  ·rename_i p q r;obtain⟨h1,h2,h3⟩:=h;obtain⟨v1,r1,p1⟩:=Z23 hE hT hR h1;obtain⟨v2,r2,p2⟩:=Z23 hE hT hR h2;obtain⟨v3,r3,p3⟩:=Z23 hE hT hR h3;refine⟨.tuple #[v1,v2,v3],by rw[Z3p hr];simp[r1,r2,r3],.tup _ _ rfl (fun i x e=>?_)⟩
   match i,e with
   |0,e=>simp at e;subst e;exact p1
   |1,e=>simp at e;subst e;exact p2
   |2,e=>simp at e;subst e;exact p3
   |i+3,e=>simp at e
  exact h.elim
 ·rename_i x y z u hr
  split at h
  ·rename_i p q r pz;obtain⟨h1,h2,h3,h4⟩:=h;obtain⟨v1,r1,p1⟩:=Z23 hE hT hR h1;obtain⟨v2,r2,p2⟩:=Z23 hE hT hR h2;obtain⟨v3,r3,p3⟩:=Z23 hE hT hR h3;obtain⟨v4,r4,p4⟩:=Z23 hE hT hR h4;refine⟨.tuple #[v1,v2,v3,v4],by rw[Z3p hr];simp[r1,r2,r3,r4],.tup _ _ rfl (fun i x e=>?_)⟩
   match i,e with
   |0,e=>simp at e;subst e;exact p1
   |1,e=>simp at e;subst e;exact p2
   |2,e=>simp at e;subst e;exact p3
   |3,e=>simp at e;subst e;exact p4
   |i+4,e=>simp at e
  exact h.elim
 exact h.elim
def noRefs:List AV->Bool
 | []=>true
 | .pv _::l=>noRefs l
 | .clo _ _ _ _::l=>noRefs l
 |_::_=>false
theorem Z21:∀ {l:List AV},noRefs l=true->∀(i:Nat) (x:AV),l[i]? = some x->refs x = []
 | .pv _::l,h,0,x,e=>by simp at e;subst e;rfl
 | .clo _ _ _ _::l,h,0,x,e=>by simp at e;subst e;rfl
 | .pv _::l,h,i+1,x,e=>Z21 (l:=l) (by simpa[noRefs]using h) i x (by simpa using e)
 | .clo _ _ _ _::l,h,i+1,x,e=>Z21 (l:=l) (by simpa[noRefs]using h) i x (by simpa using e)
theorem AC.of_awp{P:Program}{T:Tab}{f:FuncId}{fn:Func}{c:Code}{args:List AV}{res:PV}(hT:T.ok P)(hm:P.follows .mixedOrders=true)(hcall:∀(vals:Array Value) (w:World),(callFunc f vals).run P w = .ok (.enter f vals) w)
  (hf:P.funcs[f]? = some fn) (hb:fn.body=some c) (hn:Nat.ble args.length fn.ntmps=true) (hp:noRefs args=true) (h:awp P T fn.ntmps c ⟨argTm 0 args,[]⟩ (pureQ T fn res)):AC P f args [] (.pv res) []:=by
 refine⟨hcall,fun St M0 σ w vals hi hσ _ hl hA=>?_⟩;have hσ':σ=fun _=>none:=funext fun l=>hσ l rfl
 subst hσ';have hown:∀b,¬owned (fun _=>none) b:=fun b ⟨l,loc,h,_⟩=>by cases h
 have hle:=qi hn;have hE:FEnv.ok ⟨fn.ntmps,St,M0,fun _=>False,w,fun _=>none⟩:=⟨fun b hb=>⟨(hi.m0 b hb).1,id⟩,fun b hb=>⟨(hi.st b hb).1,id⟩,hi.gl.mono (Same.refl _ w) (fun b _ hb=>.inl (hb.elim id False.elim)),fun _ _ e=>by cases e⟩;have hget:∀t x,getT (argTm 0 args) t=x->x = .junk∨args[t]? = some x:=by
  intro t x e;rw[Z1v,qJ (by omega)]at e;cases ha:args[t-0]? with
  |none=>rw[ha]at e;exact .inl e.symm
  |some y=>rw[ha]at e;simp at e ha;subst e;exact .inr rfl
 have hR:Rel P ⟨fn.ntmps,St,M0,fun _=>False,w,fun _=>none⟩ ⟨argTm 0 args,[]⟩ (fun _=>none) { tmps:=vals++Array.replicate (fn.ntmps-vals.size) undef,defers:=[] } w:=by
  refine⟨by simp;omega,rfl,fun t=>?_,fun l o e=>by simp[getO]at e,fun _ _=>rfl,fun t l hl'=>?_,fun i o e=>by simp[getO]at e,fun l l' loc loc' b e=>(by cases e),fun b hb=>absurd hb (hown b),FExt.refl _ w,fun _ _ e=>by cases e⟩
  ·rcases hget t _ rfl with e|e
   ·rw[e];exact .junk _
   have:=hA t _ e;have hlt:t<args.length:=(qf.1 e).1;rw[Z0b (by omega)];exact this
  rcases hget t _ rfl with e|e
  ·rw[e]at hl';simp[refs]at hl'
  rw[Z21 hp t _ e]at hl';simp at hl'
 refine calls_of_wp hf hb (wp_mono (Z13 hE hT hm c _ _ _ _ w hR h) (fun e a' w' he=>?_));have fin:(∃s σ,resQ T fn.results.toList res s∧Rel P ⟨fn.ntmps,St,M0,fun _=>False,w,fun _=>none⟩ s σ a' w')->a'.defers = []∧∃v,(results fn a'.tmps).run P w' = .ok v w'∧∃v_1 σ',Ending.returned v = .returned v_1∧Post P St M0 (fun _=>none) w [] (.pv res) σ' v_1 w':=by
  rintro ⟨s,σ,hq,hR'⟩
  obtain⟨v,hr,hpv⟩:=Z7k hE hT hR' hq;refine⟨hR'.df,v,hr,v,fun _=>none,rfl,?_⟩;refine⟨.pv _ _ (hpv.mono (Same.refl _ w') (fun b _ hb=>?_)),fun l o e=>by simp[getO]at e,fun _ _=>rfl,fun l loc loc' e=>(by cases e),fun l l' loc loc' b e=>(by cases e),fun b hb=>absurd hb (hown b),hR'.ext.mono (fun _ _ h=>h.elim)⟩;rcases hb with hb|hb
  ·exact hb
  exact absurd hb (hown b)
 cases e with
 |normal=>exact fin he
 |ret=>exact fin he
 |exit i=>obtain⟨s,σ,hq,_⟩:=he;exact hq.elim
 |goto l=>exact he.elim
 |panic c=>exact he.elim
 |outgrown=>exact he.elim
theorem AC.calls{P:Program}{f:FuncId}{args:List AV}{res:PV}(h:AC P f args [] (.pv res) []){w:World}{vals:Array Value}(hg:Glob w (fun _=>False))(hl:vals.size=args.length)
  (hA:∀i x,args[i]? = some x->AR P w (fun b=>b<w.heap.size) (fun _=>False) (fun _=>none) x (vals.getD i undef)) :
  Calls P f vals w (fun e w'=>∃v,e = .returned v∧PR w' (fun _=>False) res v∧Below w.heap.size w w'):=by
 have hown:∀b,¬owned (fun _=>none) b:=fun b ⟨l,loc,h,_⟩=>by cases h
 have hM:Mof (fun _=>False) (fun _=>none)=fun _=>False:=funext fun b=>propext ⟨fun h=>h.elim id (hown b),False.elim⟩
 refine(h.2 (fun b=>b<w.heap.size) (fun _=>False) (fun _=>none) w vals ⟨fun l l' loc loc' b e=>(by cases e),fun b h=>absurd h (hown b),fun b h=>h.elim,fun b h=>⟨h,hown b⟩,by rw[hM];exact hg⟩ (fun _ _=>rfl) (fun l o e=>by simp[getO]at e) hl (by rw[hM];exact hA)).mono ?_
 rintro e w' ⟨v,σ',rfl,hp⟩
 have hσ:σ'=fun _=>none:=funext fun l=>hp.old l rfl
 subst hσ;have hv:=arg_pv hp.val;rw[hM]at hv;exact⟨v,rfl,hv,hp.ext.os,hp.ext.tape,hp.ext.output,hp.ext.size,fun b hb=>hp.ext.block b hb (fun⟨l,loc,h,_⟩=>(h rfl).elim)⟩
def ownQ(fn:Func)(size n:Nat)(g:Nat->List PV)(s:AState):Prop:=
 match s with
 |⟨tm,ob⟩=>match fn.results.toList with
  | [.tmp t]=>match getT tm t with
   | .own l=>match getO ob l with
    |some (.row s' n' f')=>chk (Nat.beq s' size) (n'=n∧∀i,i<n->PSubs (f' i) (g i))
    |_=>False
   | .pv (.val (.slice none 0 0))=>n=0
   |_=>False
  |_=>False
def ownE(fn:Func)(size n:Nat)(g:Nat->List PV):AExit->AState->Prop
 | .exit _,_=>False
 | .normal,s=>ownQ fn size n g s
 | .ret,s=>ownQ fn size n g s
theorem AC.of_awp_own{P:Program}{T:Tab}{f:FuncId}{fn:Func}{c:Code}{args:List AV}{size n:Nat}{g:Nat->List PV}(hT:T.ok P)(hm:P.follows .mixedOrders=true)(hcall:∀(vals:Array Value) (w:World),(callFunc f vals).run P w = .ok (.enter f vals) w)
  (hf:P.funcs[f]? = some fn) (hb:fn.body=some c) (hn:Nat.ble args.length fn.ntmps=true) (hp:noRefs args=true) (h:awp P T fn.ntmps c ⟨argTm 0 args,[]⟩ (ownE fn size n g)):AC P f args [] (.own 0) [(0,.row size n g)]:=by
 refine⟨hcall,fun St M0 σ w vals hi hσ _ hl hA=>?_⟩;have hσ':σ=fun _=>none:=funext fun l=>hσ l rfl
 subst hσ';have hown:∀b,¬owned (fun _=>none) b:=fun b ⟨l,loc,h,_⟩=>by cases h
 have hle:=qi hn;have hE:FEnv.ok ⟨fn.ntmps,St,M0,fun _=>False,w,fun _=>none⟩:=⟨fun b hb=>⟨(hi.m0 b hb).1,id⟩,fun b hb=>⟨(hi.st b hb).1,id⟩,hi.gl.mono (Same.refl _ w) (fun b _ hb=>.inl (hb.elim id False.elim)),fun _ _ e=>by cases e⟩;have hget:∀t x,getT (argTm 0 args) t=x->x = .junk∨args[t]? = some x:=by
  intro t x e;rw[Z1v,qJ (by omega)]at e;cases ha:args[t-0]? with
  |none=>rw[ha]at e;exact .inl e.symm
  |some y=>rw[ha]at e;simp at e ha;subst e;exact .inr rfl
 have hR:Rel P ⟨fn.ntmps,St,M0,fun _=>False,w,fun _=>none⟩ ⟨argTm 0 args,[]⟩ (fun _=>none) { tmps:=vals++Array.replicate (fn.ntmps-vals.size) undef,defers:=[] } w:=by
  refine⟨by simp;omega,rfl,fun t=>?_,fun l o e=>by simp[getO]at e,fun _ _=>rfl,fun t l hl'=>?_,fun i o e=>by simp[getO]at e,fun l l' loc loc' b e=>(by cases e),fun b hb=>absurd hb (hown b),FExt.refl _ w,fun _ _ e=>by cases e⟩
  ·rcases hget t _ rfl with e|e
   ·rw[e];exact .junk _
   ·have:=hA t _ e;have hlt:t<args.length:=(qf.1 e).1;rw[Z0b (by omega)];exact this
  ·rcases hget t _ rfl with e|e
   ·rw[e]at hl';simp[refs]at hl'
   ·rw[Z21 hp t _ e]at hl';simp at hl'
 refine calls_of_wp hf hb (wp_mono (Z13 hE hT hm c _ _ _ _ w hR h) (fun e a' w' he=>?_));have fin:(∃s σ,ownQ fn size n g s∧Rel P ⟨fn.ntmps,St,M0,fun _=>False,w,fun _=>none⟩ s σ a' w')->a'.defers = []∧∃v,(results fn a'.tmps).run P w' = .ok v w'∧∃v_1 σ',Ending.returned v = .returned v_1∧Post P St M0 (fun _=>none) w [(0,.row size n g)] (.own 0) σ' v_1 w':=by
  rintro ⟨⟨tm,ob⟩,σ,hq,hR'⟩
  have hc:∀l:List ResultVar,fn.results.toList=l->fn.results=l.toArray:=fun l e=>by rw[<-e]
  have mk:∀(loc:Loc),(∀b,loc.blk=some b->Mof M0 σ b∧w.heap.size<=b)->OR P w' St (Mof M0 σ) σ (.row size n g) loc->Post P St M0 (fun _=>none) w [(0,.row size n g)] (.own 0) (upd1 (fun _=>none) 0 loc) loc.ref w':=by
   intro loc hlb hor;have hMM:∀b,b<w'.heap.size->Mof M0 (upd1 (fun _=>none) 0 loc) b->Mof M0 σ b:=by
    intro b _ hb;rcases hb with hb|hb
    ·exact .inl hb
    ·rcases Z16 hb with h|h
     ·exact absurd h (hown b)
     ·exact(hlb b h).1
   refine⟨.own _ _ fun lc h=>by simp[upd1]at h;rw[h],fun k x e=>?_,fun k e=>?_,fun k lc lc' e=>(by cases e),?_,fun b h=>?_,hR'.ext.mono (fun _ _ h=>h.elim)⟩
   ·rw[Z04]at e
    split at e
    ·rename_i h;cases e;subst h;refine⟨loc,by simp[upd1],?_⟩;cases hor with
     |row0 _ _ a=>exact .row0 _ _ a
     |row _ _ _ b cap vs t hb hn hmax hsz hs hh h1=>exact .row _ _ _ b cap vs t hb hn hmax hsz hs (fun i hi j p e=>(hh i hi j p e).mono (Same.refl _ w') hMM) h1
    ·cases e
   ·rw[Z04]at e
    split at e
    ·cases e
    ·rename_i h;simp[upd1,show ¬k=0 from fun x=>h x.symm]
   ·intro k k' lc lc' b e e' _ _;unfold upd1 at e e'
    split at e<;>split at e'
    ·rename_i h h';rw[h,h']
    ·cases e'
    ·cases e
    ·cases e
   ·rcases Z16 h with h|h
    ·exact absurd h (hown b)
    ·exact .inr (hlb b h).2
  unfold ownQ at hq;simp only at hq
  split at hq
  ·rename_i t hr;have htm:=hR'.tm t;simp only at htm
   split at hq
   ·rename_i l hv
    split at hq
    ·rename_i s' n' f' hob;obtain⟨h1,h2,h3⟩:=Z02 hq;have h1:=qg h1;subst h1;subst h2;obtain⟨loc,hloc,hor⟩:=hR'.ob l _ hob;rw[hv]at htm;have hval:=Z0l htm hloc;have hlb:∀b,loc.blk=some b->Mof M0 σ b∧w.heap.size<=b:=fun b hb=>⟨.inr ⟨l,loc,hloc,hb⟩,by
      rcases hR'.own b ⟨l,loc,hloc,hb⟩with h|h
      ·exact h.elim
      ·exact h⟩
     refine⟨hR'.df,_,by simp[results,hc _ hr];rfl,_,upd1 (fun _=>none) 0 loc,rfl,?_⟩;have h4:a'.tmps.getD t undef=loc.ref:=hval;have h5:a'.tmps[t]?.getD undef=loc.ref:=by rw[<-h4];simp[qb]
     rw[h5];refine mk loc hlb ?_;cases hor with
     |row0 _ _ a=>exact .row0 _ _ a
     |row _ _ _ b cap vs t hb hn hmax hsz hs hh h6=>
      refine .row _ _ _ b cap vs t hb hn hmax hsz (fun i hi=>(h3 i hi).length▸hs i hi) (fun i hi j p e=>?_) h6;obtain⟨q,hq,hs'⟩:=(h3 i hi).get j p e;exact hs'.to _ _ _ (hh i hi j q hq)
    ·exact hq.elim
   ·rename_i hv;subst hq;rw[hv]at htm;have h4:a'.tmps.getD t undef = .slice none 0 0:=pr_val (arg_pv htm);have h5:a'.tmps[t]?.getD undef = .slice none 0 0:=by rw[<-h4];simp[qb]
    refine⟨hR'.df,_,by simp[results,hc _ hr];rfl,_,upd1 (fun _=>none) 0 ⟨.slice none 0 0,none⟩,rfl,?_⟩;rw[h5];exact mk ⟨.slice none 0 0,none⟩ (fun b hb=>by cases hb) (.row0 _ _ none)
   ·exact hq.elim
  ·exact hq.elim
 cases e with
 |normal=>exact fin he
 |ret=>exact fin he
 |exit i=>obtain⟨s,σ,hq,_⟩:=he;exact hq.elim
 |goto l=>exact he.elim
 |panic c=>exact he.elim
 |outgrown=>exact he.elim
theorem AC.of_awp_move{P:Program}{T:Tab}{f:FuncId}{fn:Func}{c:Code}{args:List AV}{o1:AObj}{size n:Nat}{g:Nat->List PV}(hT:T.ok P)(hm:P.follows .mixedOrders=true)(hcall:∀(vals:Array Value) (w:World),(callFunc f vals).run P w = .ok (.enter f vals) w)
  (hf:P.funcs[f]? = some fn) (hb:fn.body=some c) (hn:Nat.ble args.length fn.ntmps=true) (hp:wsT [(0,o1)] (argTm 0 args)=true) (hr:refsO o1 = []) (h:awp P T fn.ntmps c ⟨argTm 0 args,[(0,o1)]⟩ (ownE fn size n g)):AC P f args [(0,o1)] (.own 1) [(1,.row size n g),(0,.gone)]:=by
 refine⟨hcall,fun St M0 σ w vals hi hσ hos hl hA=>?_⟩;have hσ0:∀l,l≠0->σ l=none:=fun l hl=>hσ l (by rw[Z04,qJ (Ne.symm hl)])
 have hown0:∀b,owned σ b->∃loc,σ 0=some loc∧loc.blk=some b:=by
  rintro b ⟨l,loc,e,hb⟩
  by_cases h0:l=0
  ·subst h0;exact⟨loc,e,hb⟩
  rw[hσ0 l h0]at e;cases e
 have hE:FEnv.ok ⟨fn.ntmps,St,M0,owned σ,w,fun _=>none⟩:=⟨fun b hb=>hi.m0 b hb,fun b hb=>hi.st b hb,hi.gl.mono (Same.refl _ w) (fun b _ hb=>hb),fun _ _ e=>by cases e⟩;have hle:=qi hn;have hget:∀t x,getT (argTm 0 args) t=x->x = .junk∨args[t]? = some x:=by
  intro t x e;rw[Z1v,qJ (by omega)]at e;cases ha:args[t-0]? with
  |none=>rw[ha]at e;exact .inl e.symm
  |some y=>rw[ha]at e;simp at e ha;subst e;exact .inr rfl
 have hR:Rel P ⟨fn.ntmps,St,M0,owned σ,w,fun _=>none⟩ ⟨argTm 0 args,[(0,o1)]⟩ σ { tmps:=vals++Array.replicate (fn.ntmps-vals.size) undef,defers:=[] } w:=by
  refine⟨by simp;omega,rfl,fun t=>?_,hos,hσ,fun t l hl'=>?_,fun i o e l hl'=>?_,hi.sep,fun b hb=>.inl hb,FExt.refl _ w,fun _ _ e=>by cases e⟩
  ·rcases hget t _ rfl with e|e
   ·rw[e];exact .junk _
   have:=hA t _ e;have hlt:t<args.length:=(qf.1 e).1;rw[Z0b (by omega)];exact this
  ·rcases Z4h (l:=argTm 0 args) (t:=t)with e|⟨v,hm,e⟩
   ·simp only[e]at hl';simp[refs]at hl'
   simp only[e]at hl';exact Z68 hp t v hm l hl'
  rw[Z04]at e
  split at e
  ·cases e;rw[hr]at hl';simp at hl'
  cases e
 refine calls_of_wp hf hb (wp_mono (Z13 hE hT hm c _ _ _ _ w hR h) (fun e a' w' he=>?_));have hgo:∀k,getO [(1,AObj.row size n g),(0,AObj.gone)] k=if 1=k then some (AObj.row size n g)else if 0=k then some .gone else none:=fun k=>by
  rw[Z0v];split
  ·rfl
  exact Z04
 have fin:(∃s σ',ownQ fn size n g s∧Rel P ⟨fn.ntmps,St,M0,owned σ,w,fun _=>none⟩ s σ' a' w')->a'.defers = []∧∃v,(results fn a'.tmps).run P w' = .ok v w'∧∃v_1 σ',Ending.returned v = .returned v_1∧Post P St M0 σ w [(1,.row size n g),(0,.gone)] (.own 1) σ' v_1 w':=by
  rintro ⟨⟨tm,ob⟩,σ2,hq,hR'⟩
  have hc:∀l:List ResultVar,fn.results.toList=l->fn.results=l.toArray:=fun l e=>by rw[<-e]
  have mk:∀(loc:Loc),(∀b,loc.blk=some b->Mof M0 σ2 b∧(owned σ b∨w.heap.size<=b))->OR P w' St (Mof M0 σ2) σ2 (.row size n g) loc->Post P St M0 σ w [(1,.row size n g),(0,.gone)] (.own 1) (upd1 (fun _=>none) 1 loc) loc.ref w':=by
   intro loc hlb hor;have hMM:∀b,b<w'.heap.size->Mof M0 (upd1 (fun _=>none) 1 loc) b->Mof M0 σ2 b:=by
    intro b _ hb;rcases hb with hb|hb
    ·exact .inl hb
    rcases Z16 hb with⟨_,_,h,_⟩|h
    ·cases h
    exact(hlb b h).1
   refine⟨.own _ _ fun lc h=>by simp[upd1]at h;rw[h],fun k x e=>?_,fun k e=>?_,fun k lc lc' e e'=>?_,?_,fun b h=>?_,hR'.ext.mono (fun b _ h=>?_)⟩
   ·rw[hgo]at e
    split at e
    ·rename_i h;cases e;subst h;exact⟨loc,by simp[upd1],hor.mono (Same.refl _ w') hMM (fun _ _ _=>rfl) (fun l hl=>by simp[refsO]at hl) (fun _ _=>rfl)⟩
    split at e
    ·rename_i h;cases e;subst h;show upd1 (fun _=>none) 1 loc 0=none;simp[upd1]
    cases e
   ·rw[hgo]at e
    split at e
    ·cases e
    split at e
    ·cases e
    rename_i h1 h2;rw[hσ0 k (fun h=>h2 h.symm)];simp[upd1,show ¬k=1 from fun x=>h1 x.symm]
   ·unfold upd1 at e'
    split at e'
    ·rename_i h;subst h;rw[hσ0 1 (by decide)]at e;cases e
    cases e'
   ·intro k k' lc lc' b e e' _ _;unfold upd1 at e e'
    split at e<;>split at e'
    ·rename_i h h';rw[h,h']
    ·cases e'
    ·cases e
    cases e
   ·rcases Z16 h with⟨_,_,h,_⟩|h
    ·cases h
    exact(hlb b h).2
   obtain⟨lc,h1,h2⟩:=hown0 b h;exact⟨0,lc,by rw[hgo];simp,h1,h2⟩
  unfold ownQ at hq;simp only at hq
  split at hq
  ·rename_i t hr;have htm:=hR'.tm t;simp only at htm
   split at hq
   ·rename_i l hv
    split at hq
    ·rename_i s' n' f' hob;obtain⟨h1,h2,h3⟩:=Z02 hq;have h1:=qg h1;subst h1;subst h2;obtain⟨loc,hloc,hor⟩:=hR'.ob l _ hob;rw[hv]at htm;have hval:=Z0l htm hloc;have hlb:∀b,loc.blk=some b->Mof M0 σ2 b∧(owned σ b∨w.heap.size<=b):=fun b hb=>⟨.inr ⟨l,loc,hloc,hb⟩,hR'.own b ⟨l,loc,hloc,hb⟩⟩
     refine⟨hR'.df,_,by simp[results,hc _ hr];rfl,_,upd1 (fun _=>none) 1 loc,rfl,?_⟩;have h4:a'.tmps.getD t undef=loc.ref:=hval;have h5:a'.tmps[t]?.getD undef=loc.ref:=by rw[<-h4];simp[qb]
     rw[h5];refine mk loc hlb ?_;cases hor with
     |row0 _ _ a=>exact .row0 _ _ a
     |row _ _ _ b cap vs t hb hn hmax hsz hs hh h6=>
      refine .row _ _ _ b cap vs t hb hn hmax hsz (fun i hi=>(h3 i hi).length▸hs i hi) (fun i hi j p e=>?_) h6;obtain⟨q,hq,hs'⟩:=(h3 i hi).get j p e;exact hs'.to _ _ _ (hh i hi j q hq)
    exact hq.elim
   ·rename_i hv;subst hq;rw[hv]at htm;have h4:a'.tmps.getD t undef = .slice none 0 0:=pr_val (arg_pv htm);have h5:a'.tmps[t]?.getD undef = .slice none 0 0:=by rw[<-h4];simp[qb]
    refine⟨hR'.df,_,by simp[results,hc _ hr];rfl,_,upd1 (fun _=>none) 1 ⟨.slice none 0 0,none⟩,rfl,?_⟩;rw[h5];exact mk ⟨.slice none 0 0,none⟩ (fun b hb=>by cases hb) (.row0 _ _ none)
   exact hq.elim
  exact hq.elim
 cases e with
 |normal=>exact fin he
 |ret=>exact fin he
 |exit i=>obtain⟨s,σ,hq,_⟩:=he;exact hq.elim
 |goto l=>exact he.elim
 |panic c=>exact he.elim
 |outgrown=>exact he.elim
theorem AC.with_fn{P:Program}{g f:FuncId}{pre post caps:List AV}{dom:List PV->Prop}{isB:Bool}{gb:List PV->Bool}{gi:List PV->Int}{res:PV}(h:AC P g (pre ++ .clo dom isB gb gi::post) [] (.pv res) [])
  (hcall:∀(vals:Array Value) (w:World),(callFunc f vals).run P w = .ok (.enter f vals) w) (hpre:noRefs pre=true) (hpost:noRefs post=true) (hcaps:noRefs caps=true)
  (hf:∀xs,dom xs->AC P f (xs.map .pv++caps) [] (.pv (cloRes isB gb gi xs)) []):AC P g (pre ++ .fn f caps::post) [] (.pv res) []:=by
 refine⟨h.1,fun St M0 σ w vals hi hσ hos hl hA=>?_⟩;have hσ':σ=fun _=>none:=funext fun l=>hσ l rfl
 subst hσ';have hown:∀b,¬owned (fun _=>none) b:=fun b ⟨l,loc,h,_⟩=>by cases h
 have hmono:∀(x:AV) (v:Value),refs x = []->AR P w St (Mof M0 fun _=>none) (fun _=>none) x v->AR P w (fun b=>b<w.heap.size) (Mof M0 fun _=>none) (fun _=>none) x v:=by
  intro x v _ hx
  induction hx with
  |pv p v h=>exact .pv p v h
  |junk v=>exact .junk v
  |ptr l off v h=>exact .ptr l off v h
  |eptr l s i j v h=>exact .eptr l s i j v h
  |own l v h=>exact .own l v h
  |part l s i n v h=>exact .part l s i n v h
  |ref l v h=>exact .ref l v h
  |fn f caps vs hl _ ih=>exact .fn f caps vs hl (fun i c e=>ih i c e (by
    rename_i hr;have:=Z07 e;cases hc:refs c with
    |nil=>rfl
    |cons a b=>have:=this a (by simp[hc]);simp[refs]at hr;rw[hr]at this;simp at this))
  |mix cs vs hl _ h1 ih=>exact .mix cs vs hl (fun i c e=>ih i c e (by
    rename_i hr;have:=Z07 e;cases hc:refs c with
    |nil=>rfl
    |cons a b=>have:=this a (by simp[hc]);simp[refs]at hr;rw[hr]at this;simp at this)) h1
  |clo dom isB gb gi f caps C hC h=>exact .clo dom isB gb gi f caps C (fun b hb=>⟨(hC b hb).2,(hC b hb).2⟩) h
 have hinv:Inv (fun b=>b<w.heap.size) M0 (fun _=>none) w:=⟨hi.sep,hi.lt,hi.m0,fun b h=>⟨h,hown b⟩,hi.gl⟩;refine(h.2 (fun b=>b<w.heap.size) M0 (fun _=>none) w vals hinv (fun _ _=>rfl) (fun l o e=>by simp[getO]at e) (by simpa using hl) (fun i x hx=>?_)).mono ?_
 ·by_cases h1:i=pre.length
  ·subst h1;simp at hx;subst hx;have hfv:=hA pre.length (.fn f caps) (by simp);cases hv:vals.getD pre.length undef with
   |func fn first vs=>_
   |_=>rw[hv]at hfv;cases hfv
   rw[hv]at hfv;cases hfv with
   |fn _ _ _ hlc hcap=>
    refine .clo _ _ _ _ f vs (fun b=>b<w.heap.size) (fun b hb=>⟨hb,hb⟩) ⟨hcall,?_⟩;intro w' M xs vs' hd hsz hblk hlen hx;obtain⟨_,hrun⟩:=hf xs hd;have hsame:∀M,Same M w w':=fun M=>⟨hsz,fun b hb _=>hblk b hb⟩
    have hM0:Mof M0 (fun _=>none)=M0:=funext fun b=>propext ⟨fun h=>h.elim id (fun h=>absurd h (hown b)),.inl⟩
    have hMF:Mof (fun b=>M b∧w'.heap.size<=b∧False) (fun _=>none)=fun _=>False:=funext fun b=>propext ⟨fun h=>h.elim (fun h=>h.2.2) (fun h=>absurd h (hown b)),False.elim⟩
    refine(hrun (fun b=>b<w'.heap.size) (fun b=>M b∧w'.heap.size<=b∧False) (fun _=>none) w' (vs'++vs) ⟨fun l l' loc loc' b e=>(by cases e),fun b h=>absurd h (hown b),fun b h=>h.2.2.elim,fun b h=>⟨h,hown b⟩,?_⟩ (fun _ _=>rfl) (fun l o e=>by simp[getO]at e) (by simp[hlen,hlc]) (fun j y hy=>?_)).mono ?_
    ·rw[hMF];exact hi.gl.mono (hsame _) (fun b _ h=>h.elim)
    ·rw[hMF];rw[qO]at hy
     split at hy
     ·rename_i hlt;have hlt':j<xs.length:=by simpa using hlt
      rw[Z0b (by omega)];simp at hy;obtain⟨q,hq,rfl⟩:=hy;exact .pv _ _ ((hx j q hq).mono (Same.refl _ w') (fun b _ h=>h.elim))
     ·rename_i hge;have hge':xs.length<=j:=by simpa using hge
      rw[Z2g (by omega)];have h2:=hcap (j-xs.length) y (by simpa using hy);rw[hlen];have hr:=Z21 hcaps (j-xs.length) y (by simpa using hy);have h3:AR P w' (fun b=>b<w.heap.size) (fun _=>False) (fun _=>none) y (vs.getD (j-xs.length) undef):=(hmono y _ hr h2).mono (hsame _) (fun b _ h=>h.elim) (fun b hb hb'=>hblk b hb) (fun l hl=>by rw[hr]at hl;simp at hl);cases y with
      |pv p=>exact .pv _ _ (arg_pv h3)
      |clo d b1 gb1 gi1=>
       generalize vs.getD (j-xs.length) undef=vv at h3;cases h3 with
       |clo _ _ _ _ f2 c2 C hC h4=>exact .clo _ _ _ _ f2 c2 C (fun b hb=>⟨(hC b hb).2,(hC b hb).2⟩) h4
      |junk=>exact .junk _
      |ptr l o=>simp[refs]at hr
      |eptr l s i j=>simp[refs]at hr
      |own l=>simp[refs]at hr
      |part l s i n=>simp[refs]at hr
      |ref l=>simp[refs]at hr
      |fn f2 c2=>
       exfalso;have hc2:caps[j-xs.length]? = some (.fn f2 c2):=by simpa using hy
       have:∀(l:List AV) (i:Nat),noRefs l=true->l[i]?≠some (.fn f2 c2):=by
        intro l
        induction l with
        |nil=>intro i _;simp
        |cons z l ih=>
         intro i hz;cases z<;>simp[noRefs]at hz
         all_goals
          cases i with
          |zero=>simp
          |succ i=>simpa using ih i hz
       exact this caps _ hcaps hc2
      |mix c2=>
       exfalso;have hc2:caps[j-xs.length]? = some (.mix c2):=by simpa using hy
       have:∀(l:List AV) (i:Nat),noRefs l=true->l[i]?≠some (.mix c2):=by
        intro l
        induction l with
        |nil=>intro i _;simp
        |cons z l ih=>
         intro i hz;cases z<;>simp[noRefs]at hz
         all_goals
          cases i with
          |zero=>simp
          |succ i=>simpa using ih i hz
       exact this caps _ hcaps hc2
    ·rintro e w'' ⟨v,σ',rfl,hp⟩
     have hσ:σ'=fun _=>none:=funext fun l=>hp.old l rfl
     subst hσ;have hv2:=arg_pv hp.val;rw[hMF]at hv2;have hext:FExt (fun _=>False) w' w'':=hp.ext.mono (fun i _ ⟨l,loc,h,_⟩=>(h rfl).elim);refine⟨v,rfl,?_,hext⟩;cases isB with
     |true=>
      cases hv2;exact .sb _
     |false=>
      cases hv2;exact .val _
  ·have h2:(pre++AV.fn f caps::post)[i]? = some x:=by
    rw[qO]at hx ⊢
    split at hx
    ·rename_i hlt;rw[qK hlt];exact hx
    ·rename_i hge;rw[qJ hge];have:i-pre.length≠0:=by omega
     cases hk:i-pre.length with
     |zero=>omega
     |succ k=>rw[hk]at hx;simpa using hx
   have hr:refs x = []:=by
    rw[qO]at hx
    split at hx
    ·exact Z21 hpre i x hx
    ·rename_i hge;cases hk:i-pre.length with
     |zero=>omega
     |succ k=>rw[hk]at hx;exact Z21 hpost k x (by simpa using hx)
   exact hmono x _ hr (hA i x h2)
 ·rintro e w' ⟨v,σ',rfl,hp⟩
  have hσ:σ'=fun _=>none:=funext fun l=>hp.old l rfl
  subst hσ;exact⟨v,_,rfl,.pv _ _ (arg_pv hp.val),fun l o e=>by simp[getO]at e,hp.old,hp.stay,hp.sep,hp.blk,hp.ext⟩
theorem AC.nil_split{P:Program}{g:FuncId}{pre post:List AV}{size n:Nat}{f:Nat->List PV}{os os':Upd}{res:AV}(h1:AC P g (pre ++ .pv (.nn (.ro size n f))::post) os res os')(h2:n=0->AC P g (pre ++ .pv (.val (.slice none 0 0))::post) os res os') :
  AC P g (pre ++ .pv (.ro size n f)::post) os res os':=by
 refine⟨h1.1,fun St M0 σ w vals hi hσ hos hl hA=>?_⟩;have hv:=hA pre.length (.pv (.ro size n f)) (by simp);have hp:=arg_pv hv;have go:∀(q:PV),PR w (Mof M0 σ) q (vals.getD pre.length undef)->∀(i:Nat) (x:AV),(pre++AV.pv q::post)[i]? = some x->AR P w St (Mof M0 σ) σ x (vals.getD i undef):=by
  intro q hq i x hx
  by_cases h3:i=pre.length
  ·subst h3;simp at hx;subst hx;exact .pv _ _ hq
  refine hA i x ?_;rw[qO]at hx ⊢
  split at hx
  ·rename_i hlt;rw[qK hlt];exact hx
  rename_i hge;rw[qJ hge];cases hk:i-pre.length with
  |zero=>omega
  |succ k=>rw[hk]at hx;simpa using hx
 generalize vals.getD pre.length undef=v at hp go;cases hp with
 |ro _ _ _ a cap u hcap hmax hz hs ha hh=>
  cases a with
  |some ad=>exact h1.2 St M0 σ w vals hi hσ hos (by simpa using hl) (go _ (.nn _ ad n cap (.ro size n f (some ad) cap u hcap hmax hz hs ha hh)))
  |none=>
   have hc:=hz rfl;subst hc;have hn:n=0:=by omega
   subst hn;exact(h2 rfl).2 St M0 σ w vals hi hσ hos (by simpa using hl) (go _ (.val _))
def genQ(fn:Func)(res:AV)(os':Upd)(s:AState):Prop:=
 match s with
 |⟨tm,ob⟩=>match fn.results.toList with
  | []=>res = .pv (.tup [])∧∃r,entS r ⟨tm,ob⟩ ⟨[],os'⟩
  | [.tmp t]=>∃r,entS r ⟨tm,ob⟩ ⟨[(t,res)],os'⟩
  | [.tmp t,.tmp u]=>match res with
   | .pv (.tup [p,q])=>chk (!Nat.beq t u) (∃r,entS r ⟨tm,ob⟩ ⟨[(t,.pv p),(u,.pv q)],os'⟩)
   |_=>False
  |_=>False
def genE(fn:Func)(res:AV)(os':Upd):AExit->AState->Prop
 | .exit _,_=>False
 | .normal,s=>genQ fn res os' s
 | .ret,s=>genQ fn res os' s
theorem PR.tup2{w:World}{M:Nat->Prop}{p q:PV}{a b:Value}(h1:PR w M p a)(h2:PR w M q b):PR w M (.tup [p,q]) (.tuple #[a,b]):=by
 refine .tup _ _ rfl fun i x e=>?_
 match i with
 |0=>simp at e;subst e;exact h1
 |1=>simp at e;subst e;exact h2
 |i+2=>simp at e
theorem AC.of_awp_gen{P:Program}{T:Tab}{f:FuncId}{fn:Func}{c:Code}{args:List AV}{os os':Upd}{res:AV}(hT:T.ok P)(hm:P.follows .mixedOrders=true)(hcall:∀(vals:Array Value) (w:World),(callFunc f vals).run P w = .ok (.enter f vals) w)
  (hf:P.funcs[f]? = some fn) (hb:fn.body=some c) (hn:Nat.ble args.length fn.ntmps=true) (hp:wsT os (argTm 0 args)=true) (ho:wsO os os=true) (hid:os.all (fun x=>Nat.ble 900000 x.1)=true) (hcov:os.all (fun x=>(getO os' x.1).isSome)=true)
  (h:awp P T fn.ntmps c ⟨argTm 0 args,os⟩ (genE fn res os')):AC P f args os res os':=by
 refine⟨hcall,fun St M0 σ w vals hi hσ hos hl hA=>?_⟩;have hin:∀l loc,σ l=some loc->∃o,getO os l=some o∧(l,o)∈os:=fun l loc e=>by
  cases e2:getO os l with
  |none=>rw[hσ l e2]at e;cases e
  |some o=>exact⟨o,rfl,Z1z e2⟩
 have hE:FEnv.ok ⟨fn.ntmps,St,M0,owned σ,w,σ⟩:=⟨fun b hb=>hi.m0 b hb,fun b hb=>hi.st b hb,hi.gl.mono (Same.refl _ w) (fun b _ hb=>hb),fun l loc e=>by
  obtain⟨o,_,hm⟩:=hin l loc e;exact qi (qz.1 hid (l,o) hm)⟩
 have hle:=qi hn;have hget:∀t x,getT (argTm 0 args) t=x->x = .junk∨args[t]? = some x:=by
  intro t x e;rw[Z1v,qJ (by omega)]at e;cases ha:args[t-0]? with
  |none=>rw[ha]at e;exact .inl e.symm
  |some y=>rw[ha]at e;simp at e ha;subst e;exact .inr rfl
 have hR:Rel P ⟨fn.ntmps,St,M0,owned σ,w,σ⟩ ⟨argTm 0 args,os⟩ σ { tmps:=vals++Array.replicate (fn.ntmps-vals.size) undef,defers:=[] } w:=by
  refine⟨by simp;omega,rfl,fun t=>?_,hos,hσ,fun t l hl'=>?_,fun i o e l hl'=>Z7x ho i o (Z1z e) l hl',hi.sep,fun b hb=>.inl hb,FExt.refl _ w,fun l loc e=>?_⟩
  ·rcases hget t _ rfl with e|e
   ·rw[e];exact .junk _
   ·have:=hA t _ e;have hlt:t<args.length:=(qf.1 e).1;rw[Z0b (by omega)];exact this
  ·rcases Z4h (l:=argTm 0 args) (t:=t)with e|⟨v,hm,e⟩
   ·simp only[e]at hl';simp[refs]at hl'
   ·simp only[e]at hl';exact Z68 hp t v hm l hl'
  ·obtain⟨o,h1,_⟩:=hin l loc e;exact⟨by show getO os l≠none;rw[h1];simp,fun loc' e'=>by rw[show σ l=some loc from e]at e';cases e';rfl⟩
 refine calls_of_wp hf hb (wp_mono (Z13 hE hT hm c _ _ _ _ w hR h) (fun e a' w' he=>?_));have hc:∀l:List ResultVar,fn.results.toList=l->fn.results=l.toArray:=fun l e=>by rw[<-e]
 have post:∀(tm':List (Nat×AV)) (σ':Sig) (v:Value),Rel P ⟨fn.ntmps,St,M0,owned σ,w,σ⟩ ⟨tm',os'⟩ σ' a' w'->AR P w' St (Mof M0 σ') σ' res v->Post P St M0 σ w os' res σ' v w':=by
  intro tm' σ' v hR' hv;refine⟨hv,hR'.ob,fun l e=>?_,fun l loc loc' e e'=>(hR'.pn l loc e).2 loc' e',hR'.sep,fun b hb=>hR'.own b hb,hR'.ext.mono (fun b _ hb=>?_)⟩
  ·rw[hR'.nob l e];cases e2:σ l with
   |none=>rfl
   |some loc=>
    obtain⟨o,_,hm⟩:=hin l loc e2;have:=qz.1 hcov (l,o) hm;simp only[e]at this;cases this
  ·obtain⟨l,loc,h1,h2⟩:=hb;obtain⟨o,_,hm⟩:=hin l loc h1;have:=qz.1 hcov (l,o) hm;exact⟨l,loc,fun e=>(by simp only[e]at this;cases this),h1,h2⟩
 have fin:(∃s σ',genQ fn res os' s∧Rel P ⟨fn.ntmps,St,M0,owned σ,w,σ⟩ s σ' a' w')->a'.defers = []∧∃v,(results fn a'.tmps).run P w' = .ok v w'∧∃v_1 σ',Ending.returned v = .returned v_1∧Post P St M0 σ w os' res σ' v_1 w':=by
  rintro ⟨⟨tm,ob⟩,σ2,hq,hR'⟩
  have g:∀t,(a'.tmps[t]?).getD undef=a'.tmps.getD t undef:=fun t=>by simp[qb]
  unfold genQ at hq;simp only at hq
  split at hq
  ·rename_i hr;obtain⟨rfl,r,hq⟩:=hq;obtain⟨σ',hR2⟩:=Z0j hq _ σ2 a' w' hE hR';exact⟨hR'.df,_,by simp[results,hc _ hr];rfl,_,σ',rfl,post _ σ' _ hR2 (.pv _ _ (.tup _ _ rfl (fun i p e=>by simp at e)))⟩
  ·rename_i t hr;obtain⟨r,hq⟩:=hq;obtain⟨σ',hR2⟩:=Z0j hq _ σ2 a' w' hE hR';have h1:=hR2.tm t;simp only[Z0m,if_true]at h1;refine⟨hR'.df,_,by simp[results,hc _ hr];rfl,_,σ',rfl,post _ σ' _ hR2 ?_⟩;rw[g];exact h1
  ·rename_i t u hr
   split at hq
   ·rename_i p q;obtain⟨hne,r,hq⟩:=Z02 hq;have hne:¬t=u:=fun e=>by subst e;simp at hne
    obtain⟨σ',hR2⟩:=Z0j hq _ σ2 a' w' hE hR';have h1:AR P w' St (Mof M0 σ') σ' (.pv p) (a'.tmps.getD t undef):=by have:=hR2.tm t;simpa only[Z0m,if_true]using this
    have h2:AR P w' St (Mof M0 σ') σ' (.pv q) (a'.tmps.getD u undef):=by
     have:=hR2.tm u;simp only[Z0m,qJ hne]at this;simpa using this
    refine⟨hR'.df,_,by simp[results,hc _ hr];rfl,_,σ',rfl,post _ σ' _ hR2 (.pv _ _ ?_)⟩;simp only[g];exact PR.tup2 (arg_pv h1) (arg_pv h2)
   ·exact hq.elim
  ·exact hq.elim
 cases e with
 |normal=>exact fin he
 |ret=>exact fin he
 |exit i=>obtain⟨s,σ,hq,_⟩:=he;exact hq.elim
 |goto l=>exact he.elim
 |panic c=>exact he.elim
 |outgrown=>exact he.elim
def EqAt(P:Program)(d:Nat)(t:TypeId)(ls:List Leaf):Prop:=
 ∀(xs ys:Array Value) (w:World),xs.size=ls.length->ys.size=ls.length->(∀(i:Nat) (l:Leaf),ls[i]? = some l->l.has (xs.getD i undef)∧l.has (ys.getD i undef))->
  (Op.equalIn d t (.agg xs) (.agg ys)).run P w = .ok (eqvs xs.toList ys.toList) w
inductive FieldsEq (P:Program) (d:Nat):Nat->List Field->List Leaf->Prop where
 |nil (off:Nat):FieldsEq P d off [] []
 |one (off:Nat) (f:Field) (fs:List Field) (l:Leaf) (ls:List Leaf) (hn:f.name≠ "_") (ho:f.offset=off) (hu:P.underlying f.type=some l.desc) (h:FieldsEq P d (off+1) fs ls):FieldsEq P d off (f::fs) (l::ls)
 |many (off:Nat) (f:Field) (fs:List Field) (l1 ls:List Leaf) (hn:f.name≠ "_") (ho:f.offset=off) (i:TypeInfo) (gs:Array Field) (hu:P.underlying f.type=some (.struct gs)) (hi:P.info? f.type=some i) (hs:i.size=l1.length) (he:EqAt P d f.type l1)
   (h:FieldsEq P d (off+l1.length) fs ls):FieldsEq P d off (f::fs) (l1++ls)
theorem Zdx:∀ {a b c d:List Value},a.length=b.length->eqvs (a++c) (b++d)=(eqvs a b&&eqvs c d)
 | [],[],c,d,_=>by simp[eqvs]
 |x::a,y::b,c,d,h=>by
  simp only[List.cons_append,eqvs,Zdx (a:=a) (b:=b) (c:=c) (d:=d) (by simpa using h),Bool.and_assoc]
 | [],_::_,_,_,h=>by simp at h
 |_::_,[],_,_,h=>by simp at h
theorem Ztx{P:Program}{w:World}{d:Nat}{t:TypeId}{l:Leaf}{x y:Value}(hu:P.underlying t=some l.desc)(hx:l.has x)(hy:l.has y):(Op.equalIn (d+1) t x y).run P w = .ok (Leaf.eqv x y) w:=by
 cases l with
 |int k=>
  obtain⟨a,rfl⟩:=hx;obtain⟨b,rfl⟩:=hy;simp[Op.equalIn,run_underlying (show P.underlying t=some (.int k)from hu),Leaf.eqv]
 |str=>
  obtain⟨a,rfl⟩:=hx;obtain⟨b,rfl⟩:=hy;simp[Op.equalIn,run_underlying (show P.underlying t=some .string from hu),Leaf.eqv]
 |bool=>
  obtain⟨a,rfl⟩:=hx;obtain⟨b,rfl⟩:=hy;simp[Op.equalIn,run_underlying (show P.underlying t=some .bool from hu),Leaf.eqv]
theorem Zhk{P:Program}{w:World}{t:TypeId}{l:Leaf}{xs:Array Value}{off:Nat}(hu:P.underlying t=some l.desc)(h:off<xs.size):(part t xs off).run P w = .ok (xs.getD off undef) w:=by
 have:(isAgg t).run P w = .ok false w:=by
  cases l<;>simp[isAgg,run_underlying hu,Leaf.desc]
 simp[part,this,Array.getD,h]
theorem Zpa{P:Program}{d:Nat}{off:Nat}{fs:List Field}{ls:List Leaf}(hF:FieldsEq P (d+1) off fs ls) :
  ∀(xs ys:Array Value) (w:World),xs.size=off+ls.length->ys.size=off+ls.length->(∀(i:Nat) (l:Leaf),ls[i]? = some l->l.has (xs.getD (off+i) undef)∧l.has (ys.getD (off+i) undef))->
   (Op.eqFields (d+1) xs ys fs).run P w = .ok (eqvs (xs.toList.drop off) (ys.toList.drop off)) w:=by
 induction hF with
 |nil off=>
  intro xs ys w hx hy _;have:xs.toList.drop off = []:=List.drop_eq_nil_of_le (by simp;simpa using Nat.le_of_eq hx);simp[Op.eqFields,this,eqvs]
 |one off f fs l ls hn ho hu _ ih=>
  intro xs ys w hx hy hl;obtain⟨h1,h2⟩:=hl 0 l (by simp);have hx':off<xs.size:=by simp at hx;omega
  have hy':off<ys.size:=by simp at hy;omega
  have ih':=ih xs ys w (by simp at hx ⊢;omega) (by simp at hy ⊢;omega) (fun i l' e=>by have:=hl (i+1) l' (by simpa using e);simpa[Nat.add_assoc,Nat.add_comm 1 i]using this);have d1:xs.toList.drop off=xs.getD off undef::xs.toList.drop (off+1):=by
   rw[List.drop_eq_getElem_cons (by simpa using hx')];simp[Array.getD,hx']
  have d2:ys.toList.drop off=ys.getD off undef::ys.toList.drop (off+1):=by
   rw[List.drop_eq_getElem_cons (by simpa using hy')];simp[Array.getD,hy']
  have hr:(Op.equalIn (d+1) f.type (xs.getD off undef) (ys.getD off undef)).run P w=_:=Ztx hu h1 h2;unfold Op.eqFields;rw[d1,d2];simp only[hn,Q8,not_false_eq_true,if_true,ho,Sem.run_bind,Zhk hu hx',Zhk hu hy',Result.andThen_ok,eqvs];rw[hr];cases Leaf.eqv (xs.getD off undef) (ys.getD off undef)
  ·simp
  ·simpa using ih'
 |many off f fs l1 ls hn ho i gs hu hi hs he _ ih=>
  intro xs ys w hx hy hl;simp only[ql]at hx hy;have ih':=ih xs ys w (by omega) (by omega) (fun j l' e=>by
   have:=hl (l1.length+j) l' (by rw[qv (by omega)];simpa using e);simpa[Nat.add_assoc]using this)
  have hag:(isAgg f.type).run P w = .ok true w:=by simp[isAgg,run_underlying hu]
  have hsz:(sizeOf f.type).run P w = .ok l1.length w:=by simp[sizeOf,Z0o hi,hs]
  have px:(part f.type xs off).run P w = .ok (.agg (xs.extract off (off+l1.length))) w:=by simp[part,hag,hsz]
  have py:(part f.type ys off).run P w = .ok (.agg (ys.extract off (off+l1.length))) w:=by simp[part,hag,hsz]
  have gx:∀(zs:Array Value),zs.size=off+(l1.length+ls.length)->∀j,j<l1.length->(zs.extract off (off+l1.length)).getD j undef=zs.getD (off+j) undef:=by
   intro zs hz j hj;simp[qb,show j<min (off+l1.length) zs.size-off from by omega,show off+j<zs.size from by omega]
  have hr:=he (xs.extract off (off+l1.length)) (ys.extract off (off+l1.length)) w (by simp;omega) (by simp;omega) (fun j l' e=>by
   have hj:j<l1.length:=(qf.1 e).1;rw[gx xs hx j hj,gx ys hy j hj];exact hl j l' (by rw[qr hj];exact e))
  have tx:∀(zs:Array Value),zs.toList.drop off=(zs.extract off (off+l1.length)).toList++zs.toList.drop (off+l1.length):=by
   intro zs;rw[Array.toList_extract,List.extract_eq_take_drop];rw[show off+l1.length-off=l1.length from by omega,<-List.drop_drop,List.take_append_drop]
  unfold Op.eqFields;rw[tx xs,tx ys,Zdx (by simp;omega)];simp only[hn,Q8,not_false_eq_true,if_true,ho,Sem.run_bind,px,py,Result.andThen_ok,hr];cases eqvs (xs.extract off (off+l1.length)).toList (ys.extract off (off+l1.length)).toList
  ·simp
  ·simpa using ih'
theorem EqAt.struct{P:Program}{d:Nat}{t:TypeId}{fs:Array Field}{ls:List Leaf}(hu:P.underlying t=some (.struct fs))(hs:P.stoodInHeld t=false)(hF:FieldsEq P (d+1) 0 fs.toList ls):EqAt P (d+2) t ls:=by
 intro xs ys w hx hy hl;have hfo:P.fieldsOf t=fs:=by simp[Program.fieldsOf,hu]
 rw[run_equalIn_struct w (d+1) t xs ys (by rw[hfo];exact hu) hs,hfo];have:=Zpa hF xs ys w (by simpa using hx) (by simpa using hy) (by simpa using hl);simpa using this
inductive TT where
 |leaf
 |node (l:TT) (v:Option TY) (r:TT)
def TT.get:Nat->TT->Nat->Option TY
 |0,_,_=>none
 |f+1,t,n=>match t with
  | .leaf=>none
  | .node l v r=>match Nat.beq n 0 with
   |true=>v
   |false=>match Nat.beq (n%2) 0 with
    |true=>TT.get f l (n / 2)
    |false=>TT.get f r (n / 2)
def TT.all(p:Nat->TY->Prop):TT->Nat->Nat->Prop
 | .leaf,_,_=>True
 | .node l v r,m,b=>(match v with|some ty=>p b ty|none=>True)∧TT.all p l (2*m) b∧TT.all p r (2*m) (b+m)
theorem TT.all_get{p:Nat->TY->Prop}:∀ {f:Nat} {t:TT} {m b n:Nat} {ty:TY},TT.all p t m b->TT.get f t n=some ty->p (b+m*n) ty
 |0,t,m,b,n,ty,_,h=>by simp[TT.get]at h
 |f+1,.leaf,m,b,n,ty,_,h=>by simp[TT.get]at h
 |f+1,.node l v r,m,b,n,ty,hp,h=>by
  obtain⟨h1,h2,h3⟩:=hp;have h:(match Nat.beq n 0 with
   |true=>v
   |false=>match Nat.beq (n%2) 0 with
    |true=>TT.get f l (n / 2)
    |false=>TT.get f r (n / 2))=some ty:=h
  split at h
  ·rename_i e;have:n=0:=qg e;subst this;have h:v=some ty:=‹v=some ty›;rw[h]at h1;simpa using h1
  ·split at h
   ·rename_i e;have e:=qg e;have:=TT.all_get h2 h;have hn:2*m*(n / 2)=m*n:=by
     have:n=2*(n / 2):=by omega
     rw[Nat.mul_comm 2 m,Nat.mul_assoc,<-this]
    rw[hn]at this;exact this
   ·rename_i e;have e:n%2=1:=by
     have:Nat.beq (n%2) 0=false:=by cases hh:Nat.beq (n%2) 0<;>simp_all
     have h0:n%2≠0:=fun hh=>by rw[hh]at this;simp at this
     omega
    have:=TT.all_get h3 h;have hn:b+m+2*m*(n / 2)=b+m*n:=by
     have:n=2*(n / 2)+1:=by omega
     conv=>rhs;rw[this]
     rw[Nat.mul_add,Nat.mul_one,<-Nat.mul_assoc,Nat.mul_comm m 2];omega
    rw[hn]at this;exact this
instance:Inhabited ByteArray:=⟨ByteArray.empty⟩
abbrev vint(n:Int):PV:=.val (.int .i64 n)
abbrev vstr(s:ByteArray):PV:=.val (.string s)
abbrev vbool(b:Bool):PV:=.sb b
def roL{α:Type}[Inhabited α](size:Nat)(enc:α->List PV)(l:List α):PV:=.ro size l.length (fun i=>enc (l.getD i default))
def cstr(s:ByteArray):List PV:=[.val (.string s)]
def cint(n:Int):List PV:=[.val (.int .i64 n)]
theorem wrap64{n:Int}(h:-9223372036854775808<=n∧n<=9223372036854775807):inR .i64 n:=IntWalk.i64_in n h
theorem PSub.nilL{α:Type}[Inhabited α]{size:Nat}{enc:α->List PV}{l:List α}(h:l = []):PSub (.val (.slice none 0 0)) (roL size enc l):=by
 subst h;exact PSub.nil_ro _ _
def keepT(tm:List (Nat×AV)):List Nat->List (Nat×AV)
 | []=>[]
 |t::l=>(t,getT tm t)::keepT tm l
def keepO(ob:List (Nat×AObj)):List Nat->List (Nat×AObj)
 | []=>[]
 |l::r=>match getO ob l with
  |some o=>(l,o)::keepO ob r
  |none=>keepO ob r
theorem loop_k{P:Program}{T:Tab}{nt:Nat}{c:Code}{Q:AExit->AState->Prop}{tm:List (Nat×AV)}{ob:List (Nat×AObj)}{ι:Type}(kt ko:List Nat)(J:ι->Prop)(m:ι->Nat)(i0:ι)
  (δ:ι->List (Nat×AV)) (δo:ι->List (Nat×AObj)) (r:List (Nat×Nat)) (h0:J i0) (he:entS r ⟨tm,ob⟩ ⟨δ i0++keepT tm kt,δo i0++keepO ob ko⟩)
  (hs:∀i,J i->awp P T nt c ⟨δ i++keepT tm kt,δo i++keepO ob ko⟩ (thenK (fun s'=>∃(j:ι) (r:List (Nat×Nat)),J j∧m j<m i∧entS r s' ⟨δ j++keepT tm kt,δo j++keepO ob ko⟩) Q)) :
  ∃(ι:Type) (J:ι->Prop) (I:ι->AState) (m:ι->Nat) (i0:ι) (r:List (Nat×Nat)),J i0∧entS r ⟨tm,ob⟩ (I i0)∧
   ∀i,J i->awp P T nt c (I i) (thenK (fun s'=>∃(j:ι) (r:List (Nat×Nat)),J j∧m j<m i∧entS r s' (I j)) Q):=
 ⟨ι,J,fun i=>⟨δ i++keepT tm kt,δo i++keepO ob ko⟩,m,i0,r,h0,he,hs⟩
def forI{ρ σ:Type}(step:Nat->σ->ρ ⊕ σ):Nat->Nat->σ->ρ ⊕ σ
 |0,_,s=>.inr s
 |m+1,k,s=>match step k s with
  | .inl r=>.inl r
  | .inr s'=>forI step m (k+1) s'
theorem Z71{ρ σ:Type}{step:Nat->σ->ρ ⊕ σ}{n k:Nat}{s:σ}{r:ρ}{t:ρ ⊕ σ}(h:forI step (n-k) k s=t)(hk:k<n)(hs:step k s = .inl r):t = .inl r:=by
 rw[<-h,show n-k=(n-(k+1))+1 from by omega,forI,hs]
theorem Zeh{ρ σ:Type}{step:Nat->σ->ρ ⊕ σ}{n k:Nat}{s s':σ}{t:ρ ⊕ σ}(h:forI step (n-k) k s=t)(hk:k<n)(hs:step k s = .inr s'):forI step (n-(k+1)) (k+1) s'=t:=by
 rw[<-h,show n-k=(n-(k+1))+1 from by omega,forI,hs]
theorem Zeg{ρ σ:Type}{step:Nat->σ->ρ ⊕ σ}{n k:Nat}{s:σ}{t:ρ ⊕ σ}(h:forI step (n-k) k s=t)(hk:n<=k):t = .inr s:=by
 rw[<-h,show n-k=0 from by omega,forI]
theorem AC.sub{P:Program}{f:FuncId}{ps qs:List PV}{os os':Upd}{res:AV}(h:AC P f (qs.map .pv) os res os')(hs:PSubs ps qs):AC P f (ps.map .pv) os res os':=by
 refine⟨h.1,fun St M0 σ w vals hi hn ho hl ha=>h.2 St M0 σ w vals hi hn ho (by rw[hl];simp[hs.length]) fun i x e=>?_⟩;rw[qx]at e;cases hq:qs[i]? with
 |none=>rw[hq]at e;cases e
 |some q=>
  rw[hq]at e;simp only[Option.map_some,qw]at e;subst e;obtain⟨p,hp,hpq⟩:=hs.get i q hq;have:=ha i (.pv p) (by rw[qx,hp];rfl);exact .pv _ _ (hpq.to _ _ _ (arg_pv this))
theorem AC.sub1{P:Program}{f:FuncId}{p q:PV}{os os':Upd}{res:AV}(h:AC P f [.pv q] os res os')(h1:PSub p q):AC P f [.pv p] os res os':=
 AC.sub (qs:=[q]) (ps:=[p]) h ⟨h1,trivial⟩
theorem AC.sub2{P:Program}{f:FuncId}{p q p2 q2:PV}{os os':Upd}{res:AV}(h:AC P f [.pv q,.pv q2] os res os')(h1:PSub p q)(h2:PSub p2 q2):AC P f [.pv p,.pv p2] os res os':=
 AC.sub (qs:=[q,q2]) (ps:=[p,p2]) h ⟨h1,h2,trivial⟩
def rowL{α:Type}[Inhabited α](size:Nat)(enc:α->List PV)(l:List α):AObj:=.row size l.length (fun i=>enc (l.getD i default))
theorem Z09{α:Type}[Inhabited α]{l:List α}{k:Nat}(h:k<l.length):l.take (k+1)=l.take k ++ [l.getD k default]:=by
 rw[List.take_add_one,List.getElem?_eq_getElem h];simp[List.getD,h]
theorem Z05{α:Type}[Inhabited α]{enc:α->List PV}{acc:List α}{x:α}{F:Nat->List PV}(h1:∀i,i<acc.length->PSubs (F i) (enc (acc.getD i default)))(h2:PSubs (F acc.length) (enc x)) :
  ∀i,i<(acc ++ [x]).length->PSubs (F i) (enc ((acc ++ [x]).getD i default)):=by
 intro i hi;rw[ql]at hi
 by_cases h:i<acc.length
 ·have:(acc ++ [x]).getD i default=acc.getD i default:=by simp[List.getD,qr h]
  rw[this];exact h1 i h
 have e:i=acc.length:=by simp at hi;omega
 subst e;have:(acc ++ [x]).getD acc.length default=x:=by simp[List.getD]
 rw[this];exact h2
theorem Z19{f:Nat->List PV}{i j:Nat}{cs:List PV}:updAt f i j cs i=splice (f i) j cs:=by simp[updAt,putAt]
theorem Z11{f:Nat->List PV}{i j k:Nat}{cs:List PV}(h:k≠i):updAt f i j cs k=f k:=by
 unfold updAt putAt;rw[show Nat.beq k i=false from by rw[<-Bool.not_eq_true];simpa[Nat.beq_eq]using h]
end Go.Abs
namespace Go.Abs
open Go.RowKit
structure Reads (w:World) (cs:List Value) (ps:List PV):Prop where
 len:cs.length=ps.length
 pr:∀i p,ps[i]? = some p->PR w (fun _=>False) p (cs.getD i undef)
 one:∀i,i<cs.length->(cs.getD i undef).oneCell'=true
theorem Reads.nil{w:World}:Reads w [] []:=⟨rfl,fun i p h=>by simp at h,fun i h=>by simp at h⟩
theorem Reads.append{w:World}{a b:List Value}{p q:List PV}(h:Reads w a p)(k:Reads w b q):Reads w (a++b) (p++q):=by
 have e1:∀i,i<a.length->(a++b).getD i undef=a.getD i undef:=fun i hi=>by simp[List.getD,qr hi]
 have e2:∀i,a.length<=i->(a++b).getD i undef=b.getD (i-a.length) undef:=fun i hi=>by simp[List.getD,qv hi]
 refine⟨by simp[h.len,k.len],fun i x hx=>?_,fun i hi=>?_⟩
 ·by_cases hlt:i<a.length
  ·rw[e1 i hlt];rw[qr (by rw[<-h.len];exact hlt)]at hx;exact h.pr i x hx
  rw[e2 i (by omega)];rw[qv (by rw[<-h.len];omega)]at hx;rw[h.len];exact k.pr _ x hx
 by_cases hlt:i<a.length
 ·rw[e1 i hlt];exact h.one i hlt
 rw[e2 i (by omega)];rw[ql]at hi;exact k.one _ (by omega)
theorem Reads.single{w:World}{v:Value}{p:PV}(h:PR w (fun _=>False) p v)(h1:v.oneCell'=true):Reads w [v] [p]:=by
 refine⟨rfl,fun i q hq=>?_,fun i hi=>?_⟩
 ·cases i with
  |zero=>simp at hq;subst hq;exact h
  |succ i=>simp at hq
 cases i with
 |zero=>exact h1
 |succ i=>simp at hi
structure BulkOk {H:Type} (bulk:DataW H->Nat):Prop where
 str:∀bytes,bytes.length<=bulk (.lit (.string bytes))
 len:∀e s,e.length<=bulk (.slice e s)
 elem:∀e s d,d∈e->bulk d<=bulk (.slice e s)
 part:∀l d,d∈l->bulk d<=bulk (.agg l)
section
variable {H:Type} (enc:TypeId×Value->H) (P:Program) (w:World) (bulk:DataW H->Nat) (B:Nat)
def Opens(t:TypeId){α:Type}(cs:α->List PV)(good:α->Prop):Prop:=
 ∀(sp:Nat->Bool) (fuel:Nat) (vs:List Value) (x:DataW H×List MemPlace),DataW.trod enc P w 0 sp true fuel t vs=some x->bulk x.1<=B->∃a:α,good a∧Reads w vs (cs a)
def FOpens(fs:List Field)(off:Nat){α:Type}(cs:α->List PV)(good:α->Prop):Prop:=
 ∀(sp:Nat->Bool) (n:Nat) (vs:List Value) (xs:List (DataW H×List MemPlace)),xs.length=fs.length->(∀(i:Nat) (f:Field),fs[i]? = some f->DataW.trod enc P w 0 sp true n f.type ((vs.drop f.offset).take (P.cellsOf f.type))=xs[i]?)->
  (∀y∈xs,bulk y.1<=B)->off<=vs.length->vs.length=off+(fs.map fun f=>P.cellsOf f.type).sum->∃a:α,good a∧Reads w (vs.drop off) (cs a)
end
section
variable {H:Type} {enc:TypeId×Value->H} {P:Program} {w:World} {bulk:DataW H->Nat} {B:Nat}
theorem Opens.imp{t:TypeId}{α β:Type}{cs:α->List PV}{good:α->Prop}{cs':β->List PV}{good':β->Prop}(h:Opens enc P w bulk B t cs good)(f:α->β)(he:∀a,cs' (f a)=cs a)(hg:∀a,good a->good' (f a)):Opens enc P w bulk B t cs' good':=by
 intro sp fuel vs x hx hb;obtain⟨a,h1,h2⟩:=h sp fuel vs x hx hb;exact⟨f a,hg a h1,by rw[he];exact h2⟩
theorem Opens.int{t:TypeId}{k:IntKind}(ht:P.underlying t=some (.int k)):Opens enc P w bulk B t (fun n:Int=>[.val (.int k n)]) (fun n=>(Lit.int k n).wf=true):=by
 intro sp fuel vs x hx hb;obtain⟨n,rfl,rfl,hw⟩:=DataW.trod_int ht hx;exact⟨n,hw,Reads.single (.val _) rfl⟩
theorem Opens.bool{t:TypeId}(ht:P.underlying t=some .bool):Opens enc P w bulk B t (fun b:Bool=>[.sb b]) (fun _=>True):=by
 intro sp fuel vs x hx hb;obtain⟨n,rfl,rfl⟩:=DataW.trod_bool ht hx;exact⟨n,trivial,Reads.single (.sb _) rfl⟩
theorem Opens.str(hB:BulkOk bulk){t:TypeId}(ht:P.underlying t=some .string):Opens enc P w bulk B t (fun s:ByteArray=>[.val (.string s)]) (fun s=>s.size<=B):=by
 intro sp fuel vs x hx hb;obtain⟨s,rfl,rfl,_⟩:=DataW.trod_string ht hx;refine⟨s,?_,Reads.single (.val _) rfl⟩;have:=hB.str s.data.toList;simp only at hb;have e:s.data.toList.length=s.size:=by show s.data.toList.length=s.data.size;exact Array.length_toList
 omega
theorem Opens.slice(hB:BulkOk bulk){t e:TypeId}{α:Type}[Inhabited α]{cs:α->List PV}{good:α->Prop}{size:Nat}(ht:P.underlying t=some (.slice e))(hsz:P.cellsOf e=size)(hpos:0<size)(he:Opens enc P w bulk B e cs good) :
  Opens enc P w bulk B t (fun l:List α=>[roL size cs l]) (fun l=>l.length<=B∧∀i,i<l.length->good (l.getD i default)):=by
 intro sp fuel vs x hx hb;rcases DataW.trod_slice ht hx with⟨rfl,rfl⟩|⟨a,len,cap,elems,rest,n,rfl,rfl,rfl,_,hlc,hcm,hel,hcell,_,_⟩
 ·exact⟨[],⟨qe _,fun i h=>absurd h (by simp)⟩,Reads.single ((PSub.nil_ro size _).to _ _ _ (.val _)) rfl⟩
 ·simp only at hb;have hlen:len<=B:=by
   have:=hB.len (elems.map (·.1)) (rest.map (·.1));simp only[List.length_map]at this;omega
  have hone:∀i,i<len->∃y,good y∧∃cl,w.cells? 0 (a.add (i*size)) size=some cl∧Reads w cl (cs y):=by
   intro i hi;have h1:=hcell i hi;rw[hsz]at h1;have hi2:i<elems.length:=by omega
   rw[List.getElem?_eq_getElem hi2]at h1;cases hc:w.cells? 0 (a.add (i*size)) size with
   |none=>rw[hc]at h1;cases h1
   |some cl=>
    rw[hc]at h1;simp only[Option.bind_some]at h1;have hb2:bulk (elems[i]).1<=B:=qF (hB.elem (elems.map (·.1)) (rest.map (·.1)) _ (List.mem_map_of_mem (qE hi2))) hb;obtain⟨y,hg,hr⟩:=he sp n cl _ h1 hb2;exact⟨y,hg,cl,rfl,hr⟩
  have hex:∃f:Nat->α,∀i,i<len->good (f i)∧∃cl,w.cells? 0 (a.add (i*size)) size=some cl∧Reads w cl (cs (f i)):=
   ⟨fun i=>if h:i<len then Classical.choose (hone i h)else default,fun i hi=>by simp only[dif_pos hi];exact Classical.choose_spec (hone i hi)⟩
  obtain⟨f,hf⟩:=hex;have hget:∀i,i<len->((List.range len).map f).getD i default=f i:=fun i hi=>by simp[List.getD,hi]
  refine⟨(List.range len).map f,⟨by simpa using hlen,fun i hi=>?_⟩,Reads.single ?_ rfl⟩
  ·have hi:i<len:=by simpa using hi
   rw[hget i hi];exact(hf i hi).1
  ·have key:∀i,i<len->∀j,j<size->∃v,w.cell? (a.add (i*size+j))=some v∧v.oneCell'=true∧(a.add (i*size+j)).block<w.heap.size∧∀p,(cs (f i))[j]? = some p->PR w (fun _=>False) p v:=by
    intro i hi j hj;obtain⟨_,cl,hc,hr⟩:=hf i hi;obtain⟨_,hl,hall⟩:=World.cells?_some hc;have hj2:j<cl.length:=by omega
    have h1:=hall j hj;rw[Z57,List.getElem?_eq_getElem hj2]at h1;have hg:cl.getD j undef=cl[j]:=by simp[List.getD,hj2]
    refine⟨cl[j],h1,by rw[<-hg];exact hr.one j hj2,?_,fun p hp=>by rw[<-hg];exact hr.pr j p hp⟩;have hb:=World.cells?_block hc hpos;simpa[Z1g]using hb
   have hn:((List.range len).map f).length=len:=by simp
   unfold roL;rw[hn];refine .ro size len _ (some a) cap (fun i j=>(w.cell? (a.add (i*size+j))).getD undef) hlc hcm (fun h=>by cases h) (fun i hi=>?_) (fun h0=>⟨a,rfl,?_,fun h=>h.elim,fun i hi j hj=>?_⟩) (fun i hi j p hp=>?_)
   ·rw[hget i hi];obtain⟨_,cl,hc,hr⟩:=hf i hi;obtain⟨_,hl,_⟩:=World.cells?_some hc;rw[<-hr.len];exact hl
   ·obtain⟨v,_,_,hb,_⟩:=key 0 h0 0 hpos;simpa[Z1g]using hb
   ·obtain⟨v,e,h1,_,_⟩:=key i hi j hj;rw[e];exact⟨rfl,h1⟩
   ·rw[hget i hi]at hp;have hj:j<size:=by
     obtain⟨_,cl,hc,hr⟩:=hf i hi;obtain⟨_,hl,_⟩:=World.cells?_some hc;have:=(qf.1 hp).1;rw[<-hr.len,hl]at this;exact this
    obtain⟨v,e,_,_,hpv⟩:=key i hi j hj;simp only[e,Option.getD_some];exact hpv p hp
theorem FOpens.nil{off:Nat}:FOpens enc P w bulk B [] off (fun _:Unit=>[]) (fun _=>True):=by
 intro sp n vs xs _ _ _ _ hl;simp at hl;exact⟨(),trivial,by rw[List.drop_of_length_le (by omega)];exact Reads.nil⟩
theorem FOpens.cons{f:Field}{fs:List Field}{off:Nat}{α β:Type}{cs:α->List PV}{good:α->Prop}{cs':β->List PV}{good':β->Prop}{size:Nat}(ho:f.offset=off)(hsz:P.cellsOf f.type=size)(h:Opens enc P w bulk B f.type cs good)(k:FOpens enc P w bulk B fs (off+size) cs' good') :
  FOpens enc P w bulk B (f::fs) off (fun x:α×β=>cs x.1++cs' x.2) (fun x=>good x.1∧good' x.2):=by
 subst ho;subst hsz;intro sp n vs xs hxl hx hb hoff hl;cases xs with
 |nil=>simp at hxl
 |cons y ys=>
  have h0:=hx 0 f rfl;simp only[List.getElem?_cons_zero]at h0;obtain⟨a,ha,ra⟩:=h sp n _ _ h0 (hb y (by simp));simp only[List.map_cons,List.sum_cons]at hl;obtain⟨b,hb2,rb⟩:=k sp n vs ys (by simpa using hxl) (fun i g hg=>by simpa using hx (i+1) g (by simpa using hg)) (fun z hz=>hb z (by simp[hz])) (by omega) (by omega);refine⟨(a,b),⟨ha,hb2⟩,?_⟩;have e:vs.drop f.offset=(vs.drop f.offset).take (P.cellsOf f.type)++vs.drop (f.offset+P.cellsOf f.type):=by
   rw[<-List.drop_drop,List.take_append_drop]
  rw[e];exact ra.append rb
theorem Opens.struct(hB:BulkOk bulk){t:TypeId}{fs:Array Field}{α:Type}{cs:α->List PV}{good:α->Prop}(ht:P.underlying t=some (.struct fs))(hc:P.cellsOf t=(fs.toList.map fun f=>P.cellsOf f.type).sum)(h:FOpens enc P w bulk B fs.toList 0 cs good) :
  Opens enc P w bulk B t cs good:=by
 intro sp fuel vs x hx hb;obtain⟨xs,n,rfl,rfl,hl,hxl,hall⟩:=DataW.trod_struct ht hx;obtain⟨a,ha,hr⟩:=h sp n vs xs (by simpa using hxl) (fun i f hf=>hall i f (by simpa using hf)) (fun y hy=>qF (hB.part _ _ (List.mem_map_of_mem hy)) hb) (qe _) (by rw[hl,hc];simp);exact⟨a,ha,by simpa using hr⟩
theorem Opens.arg_struct{t:TypeId}{fs:Array Field}{α:Type}{cs:α->List PV}{good:α->Prop}{r:Go.Reach}{base:Nat}{v:Value}{d:DataW H}{ps:List MemPlace}(h:Opens enc P w bulk B t cs good)(ht:P.underlying t=some (.struct fs))
  (hok:Value.okWide P w r base t v) (hd:DataW.Trod enc P w 0 (fun _=>true) true t v d ps) (hb:bulk d<=B):∃a:α,good a∧PR w (fun _=>False) (.agg (cs a)) v:=by
 unfold Value.okWide at hok;rw[ht]at hok;obtain⟨vs,rfl,_,_⟩:=hok;obtain⟨n,hn⟩:=hd;have ec:(Value.agg vs).cells=vs:=rfl;rw[ec]at hn;obtain⟨a,ha,hr⟩:=h _ _ _ _ hn hb;refine⟨a,ha,.agg _ vs (by simpa using hr.len) (fun i p hp=>by simpa[qb,List.getD]using hr.pr i p hp) (fun i hi=>by simpa[qb,List.getD,hi]using hr.one i (by simpa using hi))⟩
end
end Go.Abs
