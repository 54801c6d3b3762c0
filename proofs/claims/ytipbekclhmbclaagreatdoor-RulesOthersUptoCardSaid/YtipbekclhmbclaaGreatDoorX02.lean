/- YtipbekclhmbclaaGreatDoorX02: walks and contracts. -/
import Derived.Test.YtipbekclhmbclaaGreatDoorX01
import Derived.Maps.RangeRun

set_option linter.unusedVariables false
set_option linter.unusedSimpArgs false
set_option linter.unusedSectionVars false

namespace Go.Abs
open Go.RowKit
variable [Globals]
def rget:List (Nat×Nat)->Nat->Option Nat
 | [],_=>none
 |(i,j)::r,l=>match Nat.beq i l with
  |true=>some j
  |false=>rget r l
def rback:List (Nat×Nat)->Nat->Option Nat
 | [],_=>none
 |(i,j)::r,l=>match Nat.beq j l with
  |true=>some i
  |false=>rback r l
def injH:List (Nat×Nat)->Bool
 | []=>true
 |(c,l)::r=>r.all (fun x=>!Nat.beq c x.1 && !Nat.beq l x.2)&&injH r
theorem Z1i:∀ {r:List (Nat×Nat)} {c l:Nat},rget r c=some l->(c,l)∈r
 |(i,j)::r,c,l,h=>by
  simp only[rget]at h
  split at h
  ·rename_i e;have e:=qg e;subst e;cases h;simp
  simp[Z1i h]
theorem Z2m:∀ {r:List (Nat×Nat)} {c l:Nat},rback r l=some c->(c,l)∈r
 |(i,j)::r,c,l,h=>by
  simp only[rback]at h
  split at h
  ·rename_i e;have e:=qg e;subst e;cases h;simp
  simp[Z2m h]
theorem Zey{c l:Nat}{r:List (Nat×Nat)}(h:injH ((c,l)::r)=true){c' l':Nat}(hm:(c',l')∈r):c≠c'∧l≠l':=by
 simp only[injH,qc]at h;have:=qz.1 h.1 (c',l') hm;simp only[qc,Q2]at this;exact⟨fun e=>by rw[e]at this;simp at this,fun e=>by rw[e]at this;simp at this⟩
theorem Zez{x:Nat×Nat}{r:List (Nat×Nat)}(h:injH (x::r)=true):injH r=true:=by
 obtain⟨c,l⟩:=x;simp only[injH,qc]at h;exact h.2
theorem Z2z:∀ {r:List (Nat×Nat)} {c l:Nat},injH r=true->(c,l)∈r->rget r c=some l
 |(i,j)::r,c,l,h,hm=>by
  simp only[rget];rcases qk.1 hm with e|hm
  ·cases e;simp
  have:=(Zey h hm).1;rw[show Nat.beq i c=false from by rw[<-Bool.not_eq_true];simpa[Nat.beq_eq]using this];exact Z2z (Zez h) hm
theorem Z22:∀ {r:List (Nat×Nat)} {c l:Nat},injH r=true->(c,l)∈r->rback r l=some c
 |(i,j)::r,c,l,h,hm=>by
  simp only[rback];rcases qk.1 hm with e|hm
  ·cases e;simp
  have:=(Zey h hm).2;rw[show Nat.beq j l=false from by rw[<-Bool.not_eq_true];simpa[Nat.beq_eq]using this];exact Z22 (Zez h) hm
theorem Zex:∀ {h n:List (Nat×Nat)},injH (h++n)=true->injH h=true
 | [],_,_=>rfl
 |(c,l)::r,n,h=>by
  simp only[List.cons_append,injH,qc,List.all_append]at h ⊢;exact⟨h.1.1,Zex h.2⟩
def viewV(h:List (Nat×Nat))(ob:Nat->Option AObj):AV->AV
 | .pv p=>.pv p
 | .junk=>.junk
 | .clo d b gb gi=>.clo d b gb gi
 | .ptr l off=>match rback h l with
  |some c=>.ptr c off
  |none=>borrowV ob (.ptr l off)
 | .own l=>match rback h l with
  |some c=>.own c
  |none=>borrowV ob (.own l)
 | .ref l=>match rback h l with
  |some c=>.ref c
  |none=>borrowV ob (.ref l)
 | .eptr l s i j=>match rback h l with
  |some c=>.eptr c s i j
  |none=>.junk
 | .part l s i n=>match rback h l with
  |some c=>.part c s i n
  |none=>.junk
 | .fn f caps=>.fn f (viewL h ob caps)
 | .mix cs=>match viewL h ob cs with
  |qs=>match pvL qs with
   |some ps=>.pv (.agg ps)
   |none=>.mix qs
where viewL (h:List (Nat×Nat)) (ob:Nat->Option AObj):List AV->List AV
 | []=>[]
 |c::cs=>viewV h ob c::viewL h ob cs
theorem Z2u{h:List (Nat×Nat)}{ob:Nat->Option AObj}:∀ {cs:List AV},viewV.viewL h ob cs=cs.map (viewV h ob)
 | []=>rfl
 |c::cs=>by simp[viewV.viewL,Z2u (cs:=cs)]
def viewO(h:List (Nat×Nat))(ob:Nat->Option AObj):AObj->Option AObj
 | .gone=>none
 | .box cs=>match(refs.refsL cs).all fun l=>(rback h l).isSome with
  |true=>some (.box (viewV.viewL h ob cs))
  |false=>none
 |o=>some o
def handO(h:List (Nat×Nat))(ob:Nat->Option AObj):List (Nat×Nat)->Option Upd
 | []=>some []
 |(c,l)::r=>match ob l with
  |some o=>match viewO h ob o,handO h ob r with
   |some o',some u=>some ((c,o')::u)
   |_,_=>none
  |none=>none
def lentN(h:List (Nat×Nat)):List Nat->List Nat
 | []=>[]
 |l::r=>match rback h l with
  |some _=>lentN h r
  |none=>l::lentN h r
theorem Z7a{h:List (Nat×Nat)}{l:Nat}:∀ {r:List Nat},l∈lentN h r↔l∈r∧rback h l=none
 | []=>by simp[lentN]
 |k::r=>by
  simp only[lentN];cases e:rback h k with
  |some c=>
   simp only[Z7a (r:=r),qk];exact⟨fun⟨h1,h2⟩=>⟨.inr h1,h2⟩,fun⟨h1,h2⟩=>⟨h1.resolve_left (fun h3=>(by subst h3;rw[e]at h2;cases h2)),h2⟩⟩
  |none=>
   simp only[qk,Z7a (r:=r)];constructor
   ·rintro (h1|⟨h1,h2⟩)
    ·subst h1;exact⟨.inl rfl,e⟩
    exact⟨.inr h1,h2⟩
   rintro ⟨h1|h1,h2⟩
   ·exact .inl h1
   exact .inr ⟨h1,h2⟩
def renV(r:List (Nat×Nat)):AV->Option AV
 | .pv p=>some (.pv p)
 | .junk=>some .junk
 | .clo d b gb gi=>some (.clo d b gb gi)
 | .ptr c off=>match rget r c with
  |some l=>some (.ptr l off)
  |none=>none
 | .own c=>match rget r c with
  |some l=>some (.own l)
  |none=>none
 | .ref c=>match rget r c with
  |some l=>some (.ref l)
  |none=>none
 | .eptr c s i j=>match rget r c with
  |some l=>some (.eptr l s i j)
  |none=>none
 | .part c s i n=>match rget r c with
  |some l=>some (.part l s i n)
  |none=>none
 | .fn f caps=>match renL r caps with
  |some caps'=>some (.fn f caps')
  |none=>none
 | .mix cs=>match renL r cs with
  |some cs'=>some (.mix cs')
  |none=>none
where renL (r:List (Nat×Nat)):List AV->Option (List AV)
 | []=>some []
 |c::cs=>match renV r c with
  |some x=>match renL r cs with
   |some xs=>some (x::xs)
   |none=>none
  |none=>none
def renO(r:List (Nat×Nat)):AObj->Option AObj
 | .box cs=>match renV.renL r cs with
  |some cs'=>some (.box cs')
  |none=>none
 |o=>some o
def renU(r:List (Nat×Nat)):Upd->Option Upd
 | []=>some []
 |(c,o)::u=>match rget r c with
  |some l=>match renO r o with
   |some o'=>match renU r u with
    |some u'=>some ((l,o')::u')
    |none=>none
   |none=>none
  |none=>none
theorem Z3n{r:List (Nat×Nat)}:∀ {cs xs:List AV},renV.renL r cs=some xs->xs.length=cs.length∧∀(i:Nat) (x:AV),xs[i]? = some x->∃c,cs[i]? = some c∧renV r c=some x
 | [],xs,h=>by simp only[renV.renL,qw]at h;subst h;exact⟨rfl,fun i y e=>by simp at e⟩
 |c::cs,xs,h=>by
  simp only[renV.renL]at h
  split at h
  ·rename_i y hy
   split at h
   ·rename_i ys hys;cases h;obtain⟨h1,h2⟩:=Z3n hys;refine⟨by simp[h1],fun i z e=>?_⟩;cases i with
    |zero=>simp at e;subst e;exact⟨c,by simp,hy⟩
    |succ i=>simpa using h2 i z (by simpa using e)
   cases h
  cases h
theorem refsG{cs:List AV}{l:Nat}(h:l∈refs.refsL cs):∃(i:Nat) (c:AV),cs[i]? = some c∧l∈refs c:=by
 induction cs with
 |nil=>simp[refs.refsL]at h
 |cons c cs ih=>
  simp only[refs.refsL,qo]at h;rcases h with h|h
  ·exact⟨0,c,by simp,h⟩
  obtain⟨i,x,h1,h2⟩:=ih h;exact⟨i+1,x,by simpa using h1,h2⟩
theorem Z7j{r:List (Nat×Nat)}:∀(c x:AV),renV r c=some x->∀l∈refs x,∃k∈refs c,rget r k=some l
 | .pv p,x,h,l,hl=>by simp only[renV,qw]at h;subst h;simp[refs]at hl
 | .junk,x,h,l,hl=>by simp only[renV,qw]at h;subst h;simp[refs]at hl
 | .clo _ _ _ _,x,h,l,hl=>by simp only[renV,qw]at h;subst h;simp[refs]at hl
 | .ptr c off,x,h,l,hl=>by
  simp only[renV]at h
  split at h
  ·rename_i k hk;cases h;simp[refs]at hl;subst hl;exact⟨c,by simp[refs],hk⟩
  cases h
 | .own c,x,h,l,hl=>by
  simp only[renV]at h
  split at h
  ·rename_i k hk;cases h;simp[refs]at hl;subst hl;exact⟨c,by simp[refs],hk⟩
  cases h
 | .ref c,x,h,l,hl=>by
  simp only[renV]at h
  split at h
  ·rename_i k hk;cases h;simp[refs]at hl;subst hl;exact⟨c,by simp[refs],hk⟩
  cases h
 | .eptr c s i j,x,h,l,hl=>by
  simp only[renV]at h
  split at h
  ·rename_i k hk;cases h;simp[refs]at hl;subst hl;exact⟨c,by simp[refs],hk⟩
  cases h
 | .part c s i n,x,h,l,hl=>by
  simp only[renV]at h
  split at h
  ·rename_i k hk;cases h;simp[refs]at hl;subst hl;exact⟨c,by simp[refs],hk⟩
  cases h
 | .fn f caps,x,h,l,hl=>by
  simp only[renV]at h
  split at h
  ·rename_i caps' hc;cases h;obtain⟨i,y,h1,h2⟩:=refsG hl;obtain⟨z,h3,h4⟩:=(Z3n hc).2 i y h1;have:SizeOf.sizeOf z<SizeOf.sizeOf caps:=List.sizeOf_lt_of_mem (List.mem_of_getElem? h3);obtain⟨k,h5,h6⟩:=Z7j z y h4 l h2;exact⟨k,by simp only[refs];exact Z07 h3 k h5,h6⟩
  cases h
 | .mix cs,x,h,l,hl=>by
  simp only[renV]at h
  split at h
  ·rename_i caps' hc;cases h;obtain⟨i,y,h1,h2⟩:=refsG hl;obtain⟨z,h3,h4⟩:=(Z3n hc).2 i y h1;have:SizeOf.sizeOf z<SizeOf.sizeOf cs:=List.sizeOf_lt_of_mem (List.mem_of_getElem? h3);obtain⟨k,h5,h6⟩:=Z7j z y h4 l h2;exact⟨k,by simp only[refs];exact Z07 h3 k h5,h6⟩
  cases h
termination_by c=>SizeOf.sizeOf c
decreasing_by all_goals simp_wf;omega
theorem Zte{r:List (Nat×Nat)}{o x:AObj}(h:renO r o=some x):∀l∈refsO x,∃k∈refsO o,rget r k=some l:=by
 intro l hl;unfold renO at h
 split at h
 ·split at h
  ·rename_i cs cs' hc;cases h;simp only[refsO]at hl ⊢;obtain⟨i,y,h1,h2⟩:=refsG hl;obtain⟨z,h3,h4⟩:=(Z3n hc).2 i y h1;obtain⟨k,h5,h6⟩:=Z7j z y h4 l h2;exact⟨k,Z07 h3 k h5,h6⟩
  cases h
 rename_i hne;cases h;cases o with
 |box cs=>exact(hne cs rfl).elim
 |_=>simp[refsO]at hl
theorem Zx4{h:List (Nat×Nat)}{ob:Nat->Option AObj}{o:AObj}:viewO h ob o≠some .gone:=by
 intro e;unfold viewO at e
 split at e
 ·cases e
 ·split at e<;>cases e
 rename_i h1 h2;cases e;exact h1 rfl
theorem Zh7{r:List (Nat×Nat)}(hr:injH r=true):∀ {u u':Upd},renU r u=some u'->
  (∀l o',getO u' l=some o'->∃c o,rget r c=some l∧getO u c=some o∧renO r o=some o')∧
  (∀c o,getO u c=some o->∃l o',rget r c=some l∧getO u' l=some o'∧renO r o=some o')
 | [],u',h=>by
  simp only[renU,qw]at h;subst h;exact⟨fun l o' e=>by simp[getO]at e,fun c o e=>by simp[getO]at e⟩
 |(c,o)::u,u',h=>by
  simp only[renU]at h
  split at h
  ·rename_i l hl
   split at h
   ·rename_i o' ho
    split at h
    ·rename_i v hv;cases h;obtain⟨h1,h2⟩:=Zh7 hr hv;refine⟨fun k x e=>?_,fun k x e=>?_⟩
     ·rw[Z0v]at e
      by_cases hk:l=k
      ·subst hk;rw[qK rfl]at e;cases e;exact⟨c,o,hl,by rw[Z0v,qK rfl],ho⟩
      rw[qJ hk]at e;obtain⟨c',o2,h3,h4,h5⟩:=h1 k x e;refine⟨c',o2,h3,?_,h5⟩;rw[Z0v,qJ]
      ·exact h4
      rintro rfl;rw[hl]at h3;cases h3;exact hk rfl
     rw[Z0v]at e
     by_cases hk:c=k
     ·subst hk;rw[qK rfl]at e;cases e;exact⟨l,o',hl,by rw[Z0v,qK rfl],ho⟩
     rw[qJ hk]at e;obtain⟨l',o2,h3,h4,h5⟩:=h2 k x e;refine⟨l',o2,h3,?_,h5⟩;rw[Z0v,qJ]
     ·exact h4
     rintro rfl
     have e1:=Z22 hr (Z1i hl);have e2:=Z22 hr (Z1i h3);rw[e1]at e2;cases e2;exact hk rfl
    cases h
   cases h
  cases h
def sigH(σ:Sig)(h:List (Nat×Nat)):Sig:=fun c=>match rget h c with
 |some l=>σ l
 |none=>none
section
variable {P:Program} {o:Oper} {ev:Operand->AV} {ob:Nat->Option AObj}
theorem Zit{w:World}{St M0:Nat->Prop}{σ:Sig}{h:List (Nat×Nat)}{L:List Nat}(hi:Inv St M0 σ w)(hinj:injH h=true)(hLn:∀l∈L,rback h l=none):∀(x:AV) (v:Value),AR P w St (Mof M0 σ) σ x v->
  (∀l∈refs x,rback h l≠none∨l∈L)->(∀l∈refs x,∀obj,ob l=some obj->At P w St M0 σ l obj)->
  AR P w St (Mof (Mlent M0 σ (h.map (·.2)++L)) (sigH σ h)) (sigH σ h) (viewV h ob x) v:=by
 have hsub:∀b,b<w.heap.size->Mof (Mlent M0 σ (h.map (·.2)++L)) (sigH σ h) b->Mof M0 σ b:=fun b _ hm=>by
  rcases hm with(hm|⟨l,loc,_,h1,h2⟩)|⟨c,loc,h1,h2⟩
  ·exact .inl hm
  ·exact .inr ⟨l,loc,h1,h2⟩
  ·unfold sigH at h1
   split at h1
   ·exact .inr ⟨_,loc,h1,h2⟩
   ·cases h1
 have hsub2:∀b,b<w.heap.size->Mof (Mlent M0 σ (h.map (·.2)++L)) (sigH σ h) b->Mlent M0 σ L b:=fun b _ hm=>by
  rcases hm with(hm|⟨l,loc,h0,h1,h2⟩)|⟨c,loc,h1,h2⟩
  ·exact .inl hm
  ·exact .inr ⟨l,loc,fun hl=>h0 (qo.2 (.inr hl)),h1,h2⟩
  ·unfold sigH at h1
   split at h1
   ·rename_i l hl;refine .inr ⟨l,loc,fun hm=>?_,h1,h2⟩;have:=Z22 hinj (Z1i hl);rw[hLn l hm]at this;cases this
   ·cases h1
 have hs:∀ {l c:Nat},rback h l=some c->sigH σ h c=σ l:=fun {l c} e=>by unfold sigH;rw[Z2z hinj (Z2m e)]
 have borrow:∀(x:AV) (v:Value),(∀l∈refs x,rback h l=none)->AR P w St (Mof M0 σ) σ x v->(∀l∈refs x,rback h l≠none∨l∈L)->(∀l∈refs x,∀obj,ob l=some obj->At P w St M0 σ l obj)->(∃p,borrowV ob x = .pv p)∨borrowV ob x = .junk->
   AR P w St (Mof (Mlent M0 σ (h.map (·.2)++L)) (sigH σ h)) (sigH σ h) (borrowV ob x) v:=by
  intro x v hn hx hL ho hp;rcases hp with⟨p,hp⟩|hp
  ·have:=Z45 (ob:=ob) (L:=L) hi hx (fun l hl=>(hL l hl).resolve_left fun h=>h (hn l hl)) ho;rw[hp]at this ⊢;exact .pv _ _ ((arg_pv this).mono (Same.refl _ w) hsub2)
  ·rw[hp];exact .junk _
 intro x v hx
 induction hx with
 |pv p v h1=>intro _ _;exact .pv p v (h1.mono (Same.refl _ w) hsub)
 |junk v=>intro _ _;exact .junk v
 |ptr l off v h1=>
  intro hL ho;unfold viewV;split
  ·rename_i c hc;exact .ptr c off v (fun loc e=>h1 loc (by rw[<-hs hc];exact e))
  ·rename_i hc;refine borrow _ _ (fun k hk=>by simp[refs]at hk;subst hk;exact hc) (.ptr l off v h1) hL ho ?_;unfold borrowV;split
   ·exact .inl ⟨_,rfl⟩
   ·exact .inr rfl
 |eptr l size i j v h1=>
  intro hL ho;unfold viewV;split
  ·rename_i c hc;exact .eptr c size i j v (fun loc e=>h1 loc (by rw[<-hs hc];exact e))
  ·exact .junk _
 |own l v h1=>
  intro hL ho;unfold viewV;split
  ·rename_i c hc;exact .own c v (fun loc e=>h1 loc (by rw[<-hs hc];exact e))
  ·rename_i hc;refine borrow _ _ (fun k hk=>by simp[refs]at hk;subst hk;exact hc) (.own l v h1) hL ho ?_;unfold borrowV;split
   ·exact .inl ⟨_,rfl⟩
   ·exact .inr rfl
 |part l size i n v h1=>
  intro hL ho;unfold viewV;split
  ·rename_i c hc;exact .part c size i n v (fun loc e=>h1 loc (by rw[<-hs hc];exact e))
  ·exact .junk _
 |ref l v h1=>
  intro hL ho;unfold viewV;split
  ·rename_i c hc;exact .ref c v (fun loc e=>h1 loc (by rw[<-hs hc];exact e))
  ·rename_i hc;refine borrow _ _ (fun k hk=>by simp[refs]at hk;subst hk;exact hc) (.ref l v h1) hL ho ?_;unfold borrowV;split
   ·exact .inl ⟨_,rfl⟩
   ·exact .inr rfl
 |fn f caps vs hl _ ih=>
  intro hL ho;unfold viewV;refine .fn f _ vs (by rw[hl,Z2u,List.length_map]) (fun i c e=>?_);rw[Z2u,qx]at e;cases hc:caps[i]? with
  |none=>rw[hc]at e;cases e
  |some y=>
   rw[hc]at e;cases e;exact ih i y hc (fun l hl=>hL l (by simp only[refs];exact Z07 hc l hl)) (fun l hl=>ho l (by simp only[refs];exact Z07 hc l hl))
 |clo dom isB gb gi f caps C hC h1=>intro _ _;exact .clo dom isB gb gi f caps C hC h1
 |mix cs vs hl _ h1 ih=>
  intro hL ho;have hcells:∀(i:Nat) (c:AV),(viewV.viewL h ob cs)[i]? = some c->AR P w St (Mof (Mlent M0 σ (h.map (·.2)++L)) (sigH σ h)) (sigH σ h) c (vs.getD i undef):=by
   intro i c e;rw[Z2u,qx]at e;cases hc:cs[i]? with
   |none=>rw[hc]at e;cases e
   |some y=>
    rw[hc]at e;cases e;exact ih i y hc (fun l hl=>hL l (by simp only[refs];exact Z07 hc l hl)) (fun l hl=>ho l (by simp only[refs];exact Z07 hc l hl))
  have hlen:vs.size=(viewV.viewL h ob cs).length:=by rw[hl,Z2u,List.length_map]
  unfold viewV;simp only;split
  ·rename_i ps hps;obtain⟨h2,h3⟩:=Z3m hps;exact .pv _ _ (.agg _ _ (by rw[hlen,h2]) (fun i p e=>arg_pv (hcells i _ (h3 i p e))) h1)
  ·exact .mix _ vs hlen hcells h1
theorem Zeq{h:List (Nat×Nat)}:∀ {r:List (Nat×Nat)} {os:Upd},handO h ob r=some os->∀c o',getO os c=some o'->∃l obj,(c,l)∈r∧ob l=some obj∧viewO h ob obj=some o'
 | [],os,hh,c,o',e=>by simp only[handO,qw]at hh;subst hh;simp[getO]at e
 |(i,l)::r,os,hh,c,o',e=>by
  simp only[handO]at hh
  split at hh
  ·rename_i obj hob
   split at hh
   ·rename_i o2 u h1 h2;cases hh;rw[Z0v]at e
    split at e
    ·rename_i e2;subst e2;cases e;exact⟨l,obj,by simp,hob,h1⟩
    obtain⟨l',obj',h3,h4,h5⟩:=Zeq h2 c o' e;exact⟨l',obj',by simp[h3],h4,h5⟩
   cases hh
  cases hh
theorem Z9w{h:List (Nat×Nat)}:∀ {r:List (Nat×Nat)} {os:Upd},handO h ob r=some os->∀c l,(c,l)∈r->getO os c≠none∧ob l≠none∧ob l≠some .gone
 |(i,k)::r,os,hh,c,l,hm=>by
  simp only[handO]at hh
  split at hh
  ·rename_i obj hob
   split at hh
   ·rename_i o2 u h1 h2;cases hh;rcases qk.1 hm with e|hm
    ·cases e;refine⟨by rw[Z0v,qK rfl];simp,by rw[hob];simp,fun e=>?_⟩;rw[hob]at e;cases e;simp[viewO]at h1
    obtain⟨h3,h4⟩:=Z9w h2 c l hm;refine⟨?_,h4⟩;rw[Z0v];split
    ·simp
    exact h3
   cases hh
  cases hh
theorem Zx5{w:World}{St M0:Nat->Prop}{σ:Sig}{h:List (Nat×Nat)}{L:List Nat}(hi:Inv St M0 σ w)(hinj:injH h=true)(hLn:∀l∈L,rback h l=none){obj o':AObj}{loc:Loc}(hO:OR P w St (Mof M0 σ) σ obj loc)(hv:viewO h ob obj=some o')(hobj:∀l,rback h l≠none->∀obj,ob l=some obj->At P w St M0 σ l obj) :
  OR P w St (Mof (Mlent M0 σ (h.map (·.2)++L)) (sigH σ h)) (sigH σ h) o' loc:=by
 have hsub:∀b,b<w.heap.size->Mof (Mlent M0 σ (h.map (·.2)++L)) (sigH σ h) b->Mof M0 σ b:=fun b _ hm=>by
  rcases hm with(hm|⟨l,loc,_,h1,h2⟩)|⟨c,loc,h1,h2⟩
  ·exact .inl hm
  ·exact .inr ⟨l,loc,h1,h2⟩
  ·unfold sigH at h1
   split at h1
   ·exact .inr ⟨_,loc,h1,h2⟩
   ·cases h1
 have plain:refsO obj = []->OR P w St (Mof (Mlent M0 σ (h.map (·.2)++L)) (sigH σ h)) (sigH σ h) obj loc:=fun hr=>
  hO.mono (Same.refl _ w) hsub (fun _ _ _=>rfl) (fun l hl=>by rw[hr]at hl;simp at hl) (fun _ _=>rfl)
 cases hO with
 |box cs b vs t hb hl hh h1=>
  unfold viewO at hv;simp only at hv
  split at hv
  ·rename_i hall;cases hv;refine .box _ b vs t hb (by rw[hl,Z2u,List.length_map]) (fun i c e=>?_) h1;rw[Z2u,qx]at e;cases hc:cs[i]? with
   |none=>rw[hc]at e;cases e
   |some y=>
    rw[hc]at e;cases e;have hin:∀l∈refs y,rback h l≠none:=fun l hl'=>by
     have:=qz.1 hall l (Z07 hc l hl');intro hn;rw[hn]at this;cases this
    exact Zit hi hinj hLn y _ (hh i y hc) (fun l hl'=>.inl (hin l hl')) (fun l hl'=>hobj l (hin l hl'))
  ·cases hv
 |pbox=>cases hv;exact plain rfl
 |row0=>cases hv;exact plain rfl
 |row=>cases hv;exact plain rfl
 |map=>cases hv;exact plain rfl
 |siter=>cases hv;exact plain rfl
 |miter=>cases hv;exact plain rfl
theorem Zh8{w:World}{St M M':Nat->Prop}{σ σ':Sig}{r:List (Nat×Nat)}(hm:∀b,b<w.heap.size->M' b->M b)(hs:∀c l,rget r c=some l->σ' l=σ c):∀(c x:AV) (v:Value),renV r c=some x->AR P w St M σ c v->AR P w St M' σ' x v:=by
 intro c x v hx hA
 induction hA generalizing x with
 |pv p v h=>simp only[renV,qw]at hx;subst hx;exact .pv p v (h.mono (Same.refl _ w) hm)
 |junk v=>simp only[renV,qw]at hx;subst hx;exact .junk v
 |clo dom isB gb gi f caps C hC h=>simp only[renV,qw]at hx;subst hx;exact .clo dom isB gb gi f caps C hC h
 |ptr c off v h=>
  simp only[renV]at hx
  split at hx
  ·rename_i l hl;cases hx;exact .ptr l off v (fun loc e=>h loc (by rw[<-hs c l hl];exact e))
  cases hx
 |own c v h=>
  simp only[renV]at hx
  split at hx
  ·rename_i l hl;cases hx;exact .own l v (fun loc e=>h loc (by rw[<-hs c l hl];exact e))
  cases hx
 |ref c v h=>
  simp only[renV]at hx
  split at hx
  ·rename_i l hl;cases hx;exact .ref l v (fun loc e=>h loc (by rw[<-hs c l hl];exact e))
  cases hx
 |eptr c s i j v h=>
  simp only[renV]at hx
  split at hx
  ·rename_i l hl;cases hx;exact .eptr l s i j v (fun loc e=>h loc (by rw[<-hs c l hl];exact e))
  cases hx
 |part c s i n v h=>
  simp only[renV]at hx
  split at hx
  ·rename_i l hl;cases hx;exact .part l s i n v (fun loc e=>h loc (by rw[<-hs c l hl];exact e))
  cases hx
 |fn f caps vs hl _ ih=>
  simp only[renV]at hx
  split at hx
  ·rename_i caps' hc;cases hx;obtain⟨h1,h2⟩:=Z3n hc;refine .fn f _ vs (by rw[hl,h1]) (fun i y e=>?_);obtain⟨z,h3,h4⟩:=h2 i y e;exact ih i z h3 y h4
  cases hx
 |mix cs vs hl _ h1 ih=>
  simp only[renV]at hx
  split at hx
  ·rename_i caps' hc;cases hx;obtain⟨h2,h3⟩:=Z3n hc;refine .mix _ vs (by rw[hl,h2]) (fun i y e=>?_) h1;obtain⟨z,h4,h5⟩:=h3 i y e;exact ih i z h4 y h5
  cases hx
theorem Ztf{w:World}{St M M':Nat->Prop}{σ σ':Sig}{r:List (Nat×Nat)}(hm:∀b,b<w.heap.size->M' b->M b)(hs:∀c l,rget r c=some l->σ' l=σ c){o' x:AObj}{loc:Loc}(hx:renO r o'=some x)(hO:OR P w St M σ o' loc):OR P w St M' σ' x loc:=by
 have plain:refsO o' = []->OR P w St M' σ' o' loc:=fun hr=>hO.mono (Same.refl _ w) hm (fun _ _ _=>rfl) (fun l hl=>by rw[hr]at hl;simp at hl) (fun _ _=>rfl)
 cases hO with
 |box cs b vs t hb hl hh h1=>
  simp only[renO]at hx
  split at hx
  ·rename_i cs' hc;cases hx;obtain⟨h2,h3⟩:=Z3n hc;refine .box _ b vs t hb (by rw[hl,h2]) (fun i y e=>?_) h1;obtain⟨z,h4,h5⟩:=h3 i y e;exact Zh8 hm hs z y _ h5 (hh i z h4)
  cases hx
 |pbox=>cases hx;exact plain rfl
 |row0=>cases hx;exact plain rfl
 |row=>cases hx;exact plain rfl
 |map=>cases hx;exact plain rfl
 |siter=>cases hx;exact plain rfl
 |miter=>cases hx;exact plain rfl
theorem Zid{fo:Operand}{args:Array Operand}{ts:Array TypeId}{f:FuncId}{caps:List AV}{h n:List (Nat×Nat)}{os os' u:Upd}{res v:AV}(ho:o.op = .call { callee:=.value fo,args:=args,argTypes:=ts })(hf:ev fo = .fn f caps)
  (hAC:AC P f (viewV.viewL h ob (args.toList.map ev++caps)) os res os') (hos:handO h ob h=some os) (hinj:injH (h++n)=true) (hnear:∀c l,(c,l)∈h->near o ev ob l)
  (hn:∀c l,(c,l)∈n->ob l=none∧getO os' c≠none) (hv:renV (h++n) res=some v) (hu:renU (h++n) os'=some u) :
  StepN P o ev ob (u++goneL (lentN h (refs.refsL (args.toList.map ev++caps)))) v:=by
 have hfm:fo∈o.op.operands:=by simp[ho,Op.operands,Call.operands]
 have ham:∀x∈args,x∈o.op.operands:=fun x hx=>by simp[ho,Op.operands,Call.operands,hx]
 have hih:=Zex hinj;have hsrc:∀l∈refs.refsL (args.toList.map ev++caps),∃x∈o.op.operands,l∈refs (ev x):=by
  intro l hl;obtain⟨i,c,h1,h2⟩:=refsG hl;rw[qO]at h1
  split at h1
  ·rename_i hlt;have hlt':i<args.size:=by simpa using hlt
   have hxe:c=ev args[i]:=by simp[hlt']at h1;exact h1.symm
   exact⟨args[i],ham _ (by simp),hxe▸h2⟩
  ·exact⟨fo,hfm,by rw[hf];simp only[refs];exact Z07 h1 l h2⟩
 generalize hL:lentN h (refs.refsL (args.toList.map ev++caps))=L;have hLm:∀l∈L,(∃x∈o.op.operands,l∈refs (ev x))∧rback h l=none:=fun l hl=>by
  rw[<-hL,Z7a]at hl;exact⟨hsrc l hl.1,hl.2⟩
 have hcases:∀l∈refs.refsL (args.toList.map ev++caps),rback h l≠none∨l∈L:=fun l hl=>by
  by_cases e:rback h l=none
  ·exact .inr (by rw[<-hL,Z7a];exact⟨hl,e⟩)
  ·exact .inl e
 obtain⟨hu1,hu2⟩:=Zh7 hinj hu;have hgo:∀l,getO (u++goneL L) l=(match getO u l with|some x=>some x|none=>if l∈L then some .gone else none):=fun l=>Z74
 have hmem:∀c l,(c,l)∈h++n->(c,l)∈h∨(c,l)∈n:=fun c l hm=>qo.1 hm
 have hnrH:∀c l,(c,l)∈h->near o ev ob l:=hnear;have hu_ne:∀c l,(c,l)∈n->getO u l≠none:=fun c l hm=>by
  obtain⟨h1,h2⟩:=hn c l hm;cases e:getO os' c with
  |none=>exact absurd e h2
  |some o2=>
   obtain⟨l',o3,h3,h4,_⟩:=hu2 c o2 e;have:=Z2z hinj (qo.2 (.inr hm));rw[this]at h3;cases h3;rw[h4];simp
 have hgo_u:∀l,getO u l≠none->getO (u++goneL L) l≠none:=fun l hl=>by
  rw[hgo];cases e:getO u l with
  |none=>exact absurd e hl
  |some x=>simp
 have href:∀c l,rget (h++n) c=some l->near o ev ob l∨getO (u++goneL L) l≠none:=fun c l e=>by
  rcases hmem c l (Z1i e)with hm|hm
  ·exact .inl (hnrH c l hm)
  ·exact .inr (hgo_u l (hu_ne c l hm))
 have hinH:∀l,rback h l≠none->∃c,(c,l)∈h:=fun l hl=>by
  cases e:rback h l with
  |none=>exact absurd e hl
  |some c=>exact⟨c,Z2m e⟩
 refine⟨?_,fun l hl=>?_,fun i obj e l hl=>?_,fun l obj e=>?_⟩
 ·intro St M0 σ w ρ hi ha hobj hne hfree;obtain⟨hfn,hcall⟩:=hAC;have hfv:=ha fo hfm;rw[hf]at hfv;cases hfv':ρ fo with
  |func fn first vs=>_
  |_=>rw[hfv']at hfv;cases hfv
  rw[hfv']at hfv;cases hfv with
  |fn _ _ _ hlc hcap=>
   unfold OpRuns;rw[Z3o ho hfv' hfn];have hrel:∀(i:Nat) (x:AV),(args.toList.map ev++caps)[i]? = some x->AR P w St (Mof M0 σ) σ x ((args.map ρ++vs).getD i undef):=by
    intro i x hx;rw[qO]at hx
    split at hx
    ·rename_i hlt;have hlt':i<args.size:=by simpa using hlt
     have hxe:x=ev args[i]:=by simp[hlt']at hx;exact hx.symm
     have hm:args[i]∈o.op.operands:=ham _ (by simp);rw[Z0b (by simpa using hlt'),hxe];have:=ha _ hm;simpa[Array.getD,hlt']using this
    ·rename_i hge;rw[Z2g (by simp at hge ⊢;exact hge)];have:=hcap _ x hx;simpa using this
   have hobjH:∀l,rback h l≠none->∀obj,ob l=some obj->At P w St M0 σ l obj:=fun l hl obj e=>by
    obtain⟨c,hm⟩:=hinH l hl;exact hobj l (hnrH c l hm) obj e
   have hLn:∀l∈L,rback h l=none:=fun l hl=>(hLm l hl).2
   have hsig:∀c l,(c,l)∈h->sigH σ h c=σ l:=fun c l hm=>by unfold sigH;rw[Z2z hih hm]
   have hown:∀b,owned (sigH σ h) b->∃c l loc,(c,l)∈h∧σ l=some loc∧loc.blk=some b:=by
    rintro b ⟨c,loc,h1,h2⟩
    unfold sigH at h1
    split at h1
    ·rename_i l hl;exact⟨c,l,loc,Z1i hl,h1,h2⟩
    ·cases h1
   have hMl:∀b,Mlent M0 σ (h.map (·.2)++L) b->Mof M0 σ b:=by
    rintro b (hb|⟨l,loc,_,h1,h2⟩)
    ·exact .inl hb
    ·exact .inr ⟨l,loc,h1,h2⟩
   have hdis:∀b,Mlent M0 σ (h.map (·.2)++L) b->¬owned (sigH σ h) b:=by
    rintro b hb ho'
    obtain⟨c,l,loc,hm,h1,h2⟩:=hown b ho';rcases hb with hb|⟨l',loc',h0,h1',h2'⟩
    ·exact(hi.m0 b hb).2 ⟨l,loc,h1,h2⟩
    ·have:=hi.sep l' l loc' loc b h1' h1 h2' h2;subst this;exact h0 (qo.2 (.inl (List.mem_map.2 ⟨(c,l'),hm,rfl⟩)))
   have hinv:Inv St (Mlent M0 σ (h.map (·.2)++L)) (sigH σ h) w:=by
    refine⟨fun c c' lc lc' b e e' eb eb'=>?_,fun b hb=>?_,fun b hb=>⟨?_,hdis b hb⟩,fun b hb=>⟨(hi.st b hb).1,fun h2=>?_⟩,hi.gl.mono (Same.refl _ w) (fun b _ hb=>?_)⟩
    ·unfold sigH at e e'
     split at e
     ·rename_i l hl
      split at e'
      ·rename_i l' hl';have:=hi.sep l l' lc lc' b e e' eb eb';subst this;have h1:=Z22 hih (Z1i hl);have h2:=Z22 hih (Z1i hl');rw[h1]at h2;cases h2;rfl
      ·cases e'
     ·cases e
    ·obtain⟨c,l,loc,_,h1,h2⟩:=hown b hb;exact hi.lt b ⟨l,loc,h1,h2⟩
    ·rcases hMl b hb with h1|h1
     ·exact(hi.m0 b h1).1
     ·exact hi.lt b h1
    ·obtain⟨c,l,loc,_,h1,h3⟩:=hown b h2;exact(hi.st b hb).2 ⟨l,loc,h1,h3⟩
    ·rcases hb with hb|hb
     ·exact hMl b hb
     ·obtain⟨c,l,loc,_,h1,h2⟩:=hown b hb;exact .inr ⟨l,loc,h1,h2⟩
   refine(hcall St (Mlent M0 σ (h.map (·.2)++L)) (sigH σ h) w (args.map ρ++vs) hinv (fun c hc=>?_) (fun c o2 e=>?_) ?_ ?_).mono ?_
   ·unfold sigH;split
    ·rename_i l hl;exact absurd hc (Z9w hos c l (Z1i hl)).1
    ·rfl
   ·obtain⟨l,obj,hm,hob,hvo⟩:=Zeq hos c o2 e;have hg:obj≠.gone:=fun e2=>by subst e2;simp[viewO]at hvo
    obtain⟨loc,h1,h2⟩:=Z0q (hobj l (hnrH c l hm) obj hob) hg;have h3:=Zx5 (ob:=ob) (L:=L) hi hih hLn h2 hvo hobjH;have h4:sigH σ h c=some loc:=by rw[hsig c l hm];exact h1
    cases o2<;>first|exact⟨loc,h4,h3⟩|exact absurd hvo Zx4
   ·rw[Z2u,List.length_map];simp[hlc]
   ·intro i y hy;rw[Z2u,qx]at hy;cases hx:(args.toList.map ev++caps)[i]? with
    |none=>rw[hx]at hy;cases hy
    |some x=>
     rw[hx]at hy;cases hy;refine Zit hi hih hLn x _ (hrel i x hx) (fun l hl=>hcases l (Z07 hx l hl)) (fun l hl obj e=>?_);obtain⟨z,hz,hlz⟩:=hsrc l (Z07 hx l hl);exact hobj l (.inl ⟨z,hz,hlz⟩) obj e
   ·rintro e w' ⟨v1,σ1,rfl,hp⟩
    refine⟨v1,rfl,?_⟩
    let σ':Sig:=fun l=>match rback (h++n) l with
     |some c=>σ1 c
     |none=>if l∈L then none else σ l
    have hs':∀c l,rget (h++n) c=some l->σ' l=σ1 c:=fun c l e=>by
     have:=Z22 hinj (Z1i e);simp only[σ',this]
    have hrb:∀l,rback (h++n) l=none->rback h l=none:=fun l e=>by
     cases e2:rback h l with
     |none=>rfl
     |some c=>
      have:=Z22 hinj (qo.2 (.inl (Z2m e2)));rw[e]at this;cases this
    have hHL:∀l,rback (h++n) l=none->l∉h.map (·.2):=fun l e hm=>by
     obtain⟨⟨c,l'⟩,h1,h2⟩:=List.mem_map.1 hm;simp only at h2;subst h2;have:=Z22 hinj (qo.2 (.inl h1));rw[e]at this;cases this
    have hMM:∀b,b<w'.heap.size->Mof M0 σ' b->Mof (Mlent M0 σ (h.map (·.2)++L)) σ1 b:=by
     rintro b _ (hb|⟨l,loc,h1,h2⟩)
     ·exact .inl (.inl hb)
     ·simp only[σ']at h1
      split at h1
      ·rename_i c hc;exact .inr ⟨c,loc,h1,h2⟩
      ·rename_i hc
       split at h1
       ·cases h1
       ·rename_i hl;exact .inl (.inr ⟨l,loc,fun hm=>(qo.1 hm).elim (hHL l hc) hl,h1,h2⟩)
    have hblk:∀c b,(∃loc,σ1 c=some loc∧loc.blk=some b)->(∃k l loc,(k,l)∈h∧σ l=some loc∧loc.blk=some b)∨w.heap.size<=b:=by
     rintro c b ⟨loc,h1,h2⟩
     rcases hp.blk b ⟨c,loc,h1,h2⟩with h3|h3
     ·exact .inl (hown b h3)
     ·exact .inr h3
    have hother:∀l,rback (h++n) l=none->∀loc,σ' l=some loc->σ l=some loc∧l∉h.map (·.2):=fun l hc loc e=>by
     simp only[σ',hc]at e
     split at e
     ·cases e
     ·exact⟨e,hHL l hc⟩
    refine⟨σ',Zh8 hMM hs' _ _ _ hv hp.val,fun l x e=>?_,fun l e=>?_,fun l lc lc' e e'=>?_,?_,fun b hb=>?_,?_⟩
    ·rw[hgo]at e;cases e1:getO u l with
     |some y=>
      rw[e1]at e;cases e;obtain⟨c,o2,h1,h2,h3⟩:=hu1 l _ e1;have h4:=hp.obj c o2 h2
      by_cases hg:o2 = .gone
      ·subst hg;simp only[renO,qw]at h3;subst h3;show σ' l=none
       rw[hs' c l h1];exact h4
      ·obtain⟨loc,h5,h6⟩:=Z0q h4 hg;have h7:=Ztf hMM hs' h3 h6;have h8:σ' l=some loc:=by rw[hs' c l h1];exact h5
       cases x<;>first|exact⟨loc,h8,h7⟩|(exfalso;cases h7)
     |none=>
      rw[e1]at e;simp only at e
      split at e
      ·rename_i hl;cases e;show σ' l=none
       simp only[σ'];split
       ·rename_i c hc;rcases hmem c l (Z2m hc)with hm|hm
        ·have:=Z22 hih hm;rw[(hLm l hl).2]at this;cases this
        ·exact absurd e1 (hu_ne c l hm)
       ·exact qK hl
      ·cases e
    ·rw[hgo]at e;cases e1:getO u l with
     |some y=>rw[e1]at e;cases e
     |none=>
      rw[e1]at e;simp only at e
      split at e
      ·cases e
      ·rename_i hl;simp only[σ'];split
       ·rename_i c hc;rcases hmem c l (Z2m hc)with hm|hm
        ·rw[hp.old c ?_,hsig c l hm];cases e2:getO os' c with
         |none=>rfl
         |some o2=>
          obtain⟨l',o3,h3,h4,_⟩:=hu2 c o2 e2;rw[Z2z hinj (qo.2 (.inl hm))]at h3;cases h3;rw[e1]at h4;cases h4
        ·exact absurd e1 (hu_ne c l hm)
       ·exact qJ hl
    ·cases hc:rback (h++n) l with
     |none=>exact qN ((hother l hc lc' e').1.symm.trans e)
     |some c=>
      simp only[σ',hc]at e';rcases hmem c l (Z2m hc)with hm|hm
      ·exact hp.stay c lc lc' (by rw[hsig c l hm];exact e) e'
      ·have h1:σ l=none:=hfree l (hgo_u l (hu_ne c l hm)) (hn c l hm).1;rw[h1]at e;cases e
    ·intro l l' lc lc' b e e' eb eb';have one:∀l l' c lc lc',rback (h++n) l=some c->rback (h++n) l'=none->σ' l=some lc->σ' l'=some lc'->lc.blk=some b->lc'.blk=some b->False:=by
      intro l l' c lc lc' hc hc' e e' eb eb';obtain⟨h1,h2⟩:=hother l' hc' lc' e';simp only[σ',hc]at e;rcases hblk c b ⟨lc,e,eb⟩with⟨k,m,loc,h3,h4,h5⟩|h3
      ·have:=hi.sep m l' loc lc' b h4 h1 h5 eb';subst this;exact h2 (List.mem_map.2 ⟨(k,m),h3,rfl⟩)
      ·have:=hi.lt b ⟨l',lc',h1,eb'⟩;omega
     cases hc:rback (h++n) l with
     |none=>
      cases hc':rback (h++n) l' with
      |none=>exact hi.sep l l' lc lc' b (hother l hc lc e).1 (hother l' hc' lc' e').1 eb eb'
      |some c'=>exact(one l' l c' lc' lc hc' hc e' e eb' eb).elim
     |some c=>
      cases hc':rback (h++n) l' with
      |none=>exact(one l l' c lc lc' hc hc' e e' eb eb').elim
      |some c'=>
       simp only[σ',hc]at e;simp only[σ',hc']at e';have:=hp.sep c c' lc lc' b e e' eb eb';subst this;have h1:=Z2z hinj (Z2m hc);have h2:=Z2z hinj (Z2m hc');rw[h1]at h2;exact qN h2
    ·obtain⟨l,loc,h1,h2⟩:=hb;cases hc:rback (h++n) l with
     |none=>exact .inl ⟨l,loc,(hother l hc loc h1).1,h2⟩
     |some c=>
      simp only[σ',hc]at h1;rcases hblk c b ⟨loc,h1,h2⟩with⟨k,m,loc',_,h4,h5⟩|h3
      ·exact .inl ⟨m,loc',h4,h5⟩
      ·exact .inr h3
    ·refine hp.ext.mono ?_
     rintro b _ ⟨c,loc,h1,h2,h3⟩
     cases e2:getO os' c with
     |none=>exact absurd e2 h1
     |some o2=>
      obtain⟨l,o3,h4,h5,_⟩:=hu2 c o2 e2;refine⟨l,loc,hgo_u l (by rw[h5];simp),?_,h3⟩;unfold sigH at h2
      split at h2
      ·rename_i l' hl';have:=Z2z hinj (qo.2 (.inl (Z1i hl')));rw[h4]at this;cases this;exact h2
      ·cases h2
 ·obtain⟨k,_,h2⟩:=Z7j _ _ hv l hl;exact href k l h2
 ·rw[hgo]at e;cases e1:getO u i with
  |some y=>
   rw[e1]at e;cases e;obtain⟨c,o2,_,_,h3⟩:=hu1 i _ e1;obtain⟨k,_,h4⟩:=Zte h3 l hl;exact href k l h4
  |none=>
   rw[e1]at e;simp only at e
   split at e
   ·cases e;simp[refsO]at hl
   ·cases e
 ·rw[hgo]at e;cases e1:getO u l with
  |some y=>
   rw[e1]at e;cases e;obtain⟨c,o2,h1,_,_⟩:=hu1 l _ e1;rcases hmem c l (Z1i h1)with hm|hm
   ·obtain⟨_,h3,h4⟩:=Z9w hos c l hm;refine⟨.inl (hnrH c l hm),.inr (.inl ?_)⟩;cases e2:ob l with
    |none=>exact absurd e2 h3
    |some z=>cases z<;>first|rfl|exact absurd e2 h4
   ·exact⟨.inr (hn c l hm).1,.inl (hn c l hm).1⟩
  |none=>
   rw[e1]at e;simp only at e
   split at e
   ·rename_i hl;cases e;exact⟨.inl (.inl (hLm l hl).1),.inr (.inr rfl)⟩
   ·cases e
def nearB(ob:Nat->Option AObj)(ls:List Nat)(l:Nat):Bool:=
 ls.contains l ||(ls.any fun k=>match ob k with
  |some obj=>(refsO obj).contains l ||(refsO obj).any fun k=>match ob k with
   |some obj=>(refsO obj).contains l
   |none=>false
  |none=>false)
def callGenK(P:Program)(ev:Operand->AV)(ob:Nat->Option AObj)(args:List Operand)(g:FuncId)(caps:List AV)(K:AV->Upd->Prop):Prop:=
 ∃(h n:List (Nat×Nat)) (os os':Upd) (res:AV),AC P g (viewV.viewL h ob (args.map ev++caps)) os res os'∧handO h ob h=some os∧
  chk (injH (h++n)) (chk (h.all fun x=>nearB ob (refs.refsL (args.map ev++caps)) x.2) (chk (n.all fun x=>(ob x.2).isNone&&(getO os' x.1).isSome) (match renV (h++n) res with
   |some v=>match renU (h++n) os' with
    |some u=>match lentN h (refs.refsL (args.map ev++caps))with
     | []=>K v u
     |L=>forceL L fun L=>K v (u++goneL L)
    |none=>False
   |none=>False)))
theorem Zof{K:AV->Upd->Prop}{fo:Operand}{args:Array Operand}{ts:Array TypeId}{g:FuncId}{caps:List AV}(ho:o.op = .call { callee:=.value fo,args:=args,argTypes:=ts })(hf:ev fo = .fn g caps)(hk:callGenK P ev ob args.toList g caps K) :
  ∃v u,K v u∧StepN P o ev ob u v:=by
 obtain⟨h,n,os,os',res,hAC,hos,hk⟩:=hk;obtain⟨h1,hk⟩:=Z02 hk;obtain⟨h2,hk⟩:=Z02 hk;obtain⟨h3,hk⟩:=Z02 hk
 split at hk
 ·rename_i v hv
  split at hk
  ·rename_i u hu;have hs:=Zid ho hf hAC hos h1 (fun c l hm=>?_) (fun c l hm=>?_) hv hu
   ·split at hk
    ·rename_i hL;rw[hL]at hs;exact⟨v,u,hk,by simpa[goneL]using hs⟩
    rw[Z4d]at hk;exact⟨v,_,hk,hs⟩
   ·have:=qz.1 h2 (c,l) hm;simp only[nearB,Bool.or_eq_true]at this;have hsrc:∀k∈refs.refsL (args.toList.map ev++caps),∃x∈o.op.operands,k∈refs (ev x):=by
     intro k hk;obtain⟨i,c,h1,h2⟩:=refsG hk;rw[qO]at h1
     split at h1
     ·rename_i hlt;have hlt':i<args.size:=by simpa using hlt
      have hxe:c=ev args[i]:=by simp[hlt']at h1;exact h1.symm
      exact⟨args[i],by simp[ho,Op.operands,Call.operands],hxe▸h2⟩
     exact⟨fo,by simp[ho,Op.operands,Call.operands],by rw[hf];simp only[refs];exact Z07 h1 k h2⟩
    rcases this with h4|h4
    ·exact .inl (hsrc l (List.contains_iff_mem.1 h4))
    obtain⟨k,hk,h5⟩:=List.any_eq_true.1 h4;obtain⟨x,hx,hkx⟩:=hsrc k hk
    split at h5
    ·rename_i obj hob;rcases Bool.or_eq_true _ _▸h5 with h5|h5
     ·exact .inr (.inl ⟨x,hx,k,hkx,obj,hob,List.contains_iff_mem.1 h5⟩)
     obtain⟨k',hk',h6⟩:=List.any_eq_true.1 h5
     split at h6
     ·rename_i obj' hob';exact .inr (.inr ⟨x,hx,k,hkx,obj,hob,k',hk',obj',hob',List.contains_iff_mem.1 h6⟩)
     cases h6
    cases h5
   have:=qz.1 h3 (c,l) hm;simp only[qc,Option.isNone_iff_eq_none]at this;exact⟨this.1,fun e=>by rw[e]at this;simp at this⟩
  exact hk.elim
 exact hk.elim
end
section
variable {P:Program} {T:Tab} {o:Oper} {ev:Operand->AV} {ob:Nat->Option AObj}
def solidD:TypeDesc->Bool
 | .interface _=>false
 | .pointer _=>false
 |_=>true
theorem Zw2{xt:TypeId}{x:Operand}{p:PV}{ty:TY}(hT:T.ok P)(ho:o.op = .makeInterface xt x)(ht:T xt=some ty)(hd:solidD ty.und=true)(hx:ev x = .pv p):Step P o ev ob [] (.pv (.ifc xt p)):=by
 have hxm:x∈o.op.operands:=by simp[ho,Op.operands]
 refine .of_pure (fun l hl=>by simp[refs]at hl) fun St M0 σ w ρ hin ha hobj=>?_
 have hA:=arg_pv (hx▸ha x hxm);obtain⟨_,hu,_⟩:=hT _ _ ht;refine⟨.iface xt (ρ x),?_,.pv _ _ (.ifc _ _ _ hA)⟩;have hrun:(Instr.makeInterface xt (ρ x)).run P w = .ok (.iface xt (ρ x)) w:=by
  unfold Instr.makeInterface;rw[Sem.run_bind,run_underlying hu];cases hund:ty.und<;>rw[hund]at hd<;>first|rfl|cases hd
 simp[execOp,ho,hrun]
theorem tupI{w:World}{M:Nat->Prop}{p:PV}{v:Value}{b:Bool}(h:PR w M p v):PR w M (.tup [p,.val (.bool b)]) (.tuple #[v,.bool b]):=by
 refine .tup _ _ rfl fun i q e=>?_
 match i with
 |0=>simp at e;subst e;exact h
 |1=>simp at e;subst e;exact .val _
 |i+2=>simp at e
theorem Zuu{x:Operand}{xt t:TypeId}{p:PV}{ty:TY}(hT:T.ok P)(ho:o.op = .typeAssert x xt t true)(ht:T t=some ty)(hd:solidD ty.und=true)(hx:ev x = .pv (.ifc t p)):Step P o ev ob [] (.pv (.tup [p,.val (.bool true)])):=by
 have hxm:x∈o.op.operands:=by simp[ho,Op.operands]
 refine .of_pure (fun l hl=>by simp[refs]at hl) fun St M0 σ w ρ hin ha hobj=>?_
 have hA:=arg_pv (hx▸ha x hxm);obtain⟨_,hu,_⟩:=hT _ _ ht;cases hv:ρ x with
 |iface t' v=>
  rw[hv]at hA;cases hA with
  |ifc _ _ _ h=>
   refine⟨.tuple #[v,.bool true],?_,.pv _ _ (tupI h)⟩;have hrun:(Instr.typeAssert (.iface t v) xt t true).run P w = .ok (.tuple #[v,.bool true]) w:=by
    unfold Instr.typeAssert;simp only[Sem.run_bind,run_underlying hu];cases hund:ty.und<;>rw[hund]at hd<;>first|(simp;done)|cases hd
   simp[execOp,ho,hv,hrun]
 |_=>rw[hv]at hA;cases hA
theorem Zut{x:Operand}{xt t t':TypeId}{p:PV}{ty:TY}{z:Value}(hT:T.ok P)(ho:o.op = .typeAssert x xt t true)(ht:T t=some ty)(hd:solidD ty.und=true)(hx:ev x = .pv (.ifc t' p))(hne:t'≠t)(hz:ty.info.zero=some z):Step P o ev ob [] (.pv (.tup [ofConst z,.val (.bool false)])):=by
 have hxm:x∈o.op.operands:=by simp[ho,Op.operands]
 refine .of_pure (fun l hl=>by simp[refs]at hl) fun St M0 σ w ρ hin ha hobj=>?_
 have hA:=arg_pv (hx▸ha x hxm);obtain⟨hi,hu,_⟩:=hT _ _ ht;cases hv:ρ x with
 |iface t'' v=>
  rw[hv]at hA;cases hA with
  |ifc _ _ _ h=>
   refine⟨.tuple #[z,.bool false],?_,.pv _ _ (tupI (Z3l z))⟩;have hzv:(zeroValue t).run P w = .ok z w:=by simp[zeroValue,Z0o hi,hz]
   have hrun:(Instr.typeAssert (.iface t' v) xt t true).run P w = .ok (.tuple #[z,.bool false]) w:=by
    unfold Instr.typeAssert;simp only[Sem.run_bind,run_underlying hu];cases hund:ty.und<;>rw[hund]at hd<;>first|(simp[hne,hzv];done)|cases hd
   simp[execOp,ho,hv,hrun]
 |_=>rw[hv]at hA;cases hA
theorem AC.run0{f:FuncId}{ps:List PV}{res:PV}(h:AC P f (ps.map .pv) [] (.pv res) []){St M0:Nat->Prop}{σ:Sig}{w:World}(hi:Inv St M0 σ w){vals:Array Value}(hl:vals.size=ps.length)(ha:∀i p,ps[i]? = some p->PR w (Mof M0 σ) p (vals.getD i undef)) :
  Calls P f vals w (fun e w'=>∃v,e = .returned v∧PR w' (Mof M0 σ) res v∧FExt (fun _=>False) w w'):=by
 have hM:∀b,Mlent M0 σ [] b->b<w.heap.size:=fun b hb=>by
  rcases hb with hb|⟨l,loc,_,h1,h2⟩
  ·exact(hi.m0 b hb).1
  ·exact hi.lt b ⟨l,loc,h1,h2⟩
 have hown:∀b,¬owned (fun _=>none) b:=fun b ⟨l,loc,h,_⟩=>by cases h
 have hmof:Mof (Mlent M0 σ []) (fun _=>none)=Mlent M0 σ []:=funext fun b=>propext ⟨fun h=>h.elim id (fun h=>absurd h (hown b)),.inl⟩
 have hle:∀b,Mlent M0 σ [] b->Mof M0 σ b:=fun b hm=>by
  rcases hm with hm|⟨l,loc,_,h1,h2⟩
  ·exact .inl hm
  ·exact .inr ⟨l,loc,h1,h2⟩
 have hge:∀b,Mof M0 σ b->Mlent M0 σ [] b:=fun b hm=>by
  rcases hm with hm|⟨l,loc,h1,h2⟩
  ·exact .inl hm
  ·exact .inr ⟨l,loc,by simp,h1,h2⟩
 have hinv:Inv (fun b=>b<w.heap.size) (Mlent M0 σ []) (fun _=>none) w:=⟨fun l l' loc loc' b e=>(by cases e),fun b h=>absurd h (hown b),fun b h=>⟨hM b h,hown b⟩,fun b h=>⟨h,hown b⟩,by
  rw[hmof];exact hi.gl.mono (Same.refl _ w) (fun b _ hb=>hle b hb)⟩
 refine(h.2 (fun b=>b<w.heap.size) (Mlent M0 σ []) (fun _=>none) w vals hinv (fun _ _=>rfl) (fun l o e=>by simp[getO]at e) (by simpa using hl) (fun i x hx=>?_)).mono ?_
 ·rw[qx]at hx;cases hp:ps[i]? with
  |none=>rw[hp]at hx;cases hx
  |some p=>
   rw[hp]at hx;cases hx;rw[hmof];exact .pv _ _ ((ha i p hp).mono (Same.refl _ w) (fun b _ hb=>hle b hb))
 ·rintro e w' ⟨v,σ',rfl,hpost⟩
  have hσ':σ'=fun _=>none:=funext fun l=>hpost.old l (by simp[getO])
  subst hσ';have hval:=arg_pv hpost.val;rw[hmof]at hval;exact⟨v,rfl,hval.mono (Same.refl _ w') (fun b _ hb=>hge b hb),hpost.ext.mono (fun i _ ⟨l,loc,h,_⟩=>(h rfl).elim)⟩
def mfun(ms:Array Method)(name:String):Option FuncId:=match ms.find? (·.name == name)with
 |some m=>match m.path.isEmpty,m.func with
  |true,some (f,false)=>some f
  |_,_=>none
 |none=>none
theorem Zg1{ms:Array Method}{name:String}{f:FuncId}(h:mfun ms name=some f):∃m,ms.find? (·.name == name)=some m∧m.path=#[]∧m.func=some (f,false):=by
 unfold mfun at h
 split at h
 ·rename_i m hm
  split at h
  ·rename_i f' hp hf;cases h;exact⟨m,hm,by simpa using hp,hf⟩
  ·cases h
 ·cases h
theorem Zhj{t:TypeId}{ty:TY}{m:Method}{f:FuncId}{name:String}(hT:T.ok P)(ht:T t=some ty)(hd:solidD ty.und=true)(hm:ty.info.methods.find? (·.name == name)=some m)(hp:m.path=#[])(hf:m.func=some (f,false))(n:Nat)(v:Value)(w:World) :
  (method (n+1) t v name).run P w = .ok (f,v) w:=by
 obtain⟨hi,hu,_⟩:=hT _ _ ht;unfold method;rw[Sem.run_bind,Z0o hi];have hr:∀wr,(receiverAt t (.val v) false wr).run P w = .ok v w:=fun wr=>by
  unfold receiverAt;rw[Sem.run_bind,run_underlying hu];cases hund:ty.und<;>rw[hund]at hd<;>first|rfl|cases hd
 show Sem.run P (match ty.info.methods.find? (·.name == name)with|some m=>_|_=>_) w=_
 rw[hm];simp[hp,hf,follow,hr,Place.get]
theorem Zvn{recv:Operand}{name:String}{args:Array Operand}{ts:Array TypeId}{t:TypeId}{p:PV}{f:FuncId}{ps:List PV}{res:PV}{ty:TY}{m:Method}(hT:T.ok P)
  (ho:o.op = .call { callee:=.invoke recv name,args:=args,argTypes:=ts }) (hr:ev recv = .pv (.ifc t p)) (ht:T t=some ty) (hd:solidD ty.und=true)
  (hm:ty.info.methods.find? (·.name == name)=some m) (hp:m.path=#[]) (hf:m.func=some (f,false)) (hargs:args.toList.map ev=ps.map .pv)
  (hAC:AC P f ((p::ps).map .pv) [] (.pv res) []):Step P o ev ob [] (.pv res):=by
 have hrm:recv∈o.op.operands:=by simp[ho,Op.operands,Call.operands]
 have ham:∀x∈args,x∈o.op.operands:=fun x hx=>by simp[ho,Op.operands,Call.operands,hx]
 refine⟨?_,fun l hl=>by simp[refs]at hl,fun i obj e l hl=>by simp[getO]at e,fun l obj e _=>by simp[getO]at e⟩;intro St M0 σ w ρ hi ha hobj _;have hA:=arg_pv (hr▸ha recv hrm);cases hv:ρ recv with
 |iface t' v=>
  rw[hv]at hA;cases hA with
  |ifc _ _ _ h=>
   unfold OpRuns;have hrun:(execOp ρ o).run P w = .ok (.enter f (#[v]++args.map ρ)) w:=by
    have hme:∀n,0<n->(method n t v name).run P w = .ok (f,v) w:=fun n hn=>by
     obtain⟨k,rfl⟩:∃k,n=k+1:=⟨n-1,by omega⟩;exact Zhj hT ht hd hm hp hf k v w
    have hfuel:0<P.types.size+Made.depth:=by unfold Made.depth;omega
    have hcm:(callMethod (.iface t v) name (args.map ρ)).run P w = .ok (.enter f (#[v]++args.map ρ)) w:=by
     simp[callMethod,Sem.run_bind,hme _ hfuel,hAC.1]
    have hx:(#[Value.iface t v]++args.map ρ).extract 1 (#[Value.iface t v]++args.map ρ).size=args.map ρ:=by
     apply Array.ext
     ·simp
     ·intro i h1 h2;simp
    have e0:(#[Value.iface t v]++args.map ρ)[0]? = some (.iface t v):=by rw[Array.getElem?_append_left (by simp)];rfl
    have e1:(args.map ρ).extract 0 args.size=args.map ρ:=by
     have:=Array.extract_size (xs:=args.map ρ);rwa[Array.size_map]at this
    simp[execOp,ho,resolve,hv,invoke,e0,e1,hcm]
   rw[hrun];refine(hAC.run0 hi (vals:=#[v]++args.map ρ) ?_ ?_).mono ?_
   ·have:=congrArg List.length hargs;simp at this;simp[this];omega
   ·intro i q e;cases i with
    |zero=>
     simp at e;subst e;rw[Z0b (by simp)];simpa using h
    |succ i=>
     have e2:ps[i]? = some q:=by simpa using e
     have e3:(args.toList.map ev)[i]? = some (.pv q):=by rw[hargs,qx,e2];rfl
     rw[qx]at e3;cases hx:args.toList[i]? with
     |none=>rw[hx]at e3;cases e3
     |some x=>
      rw[hx]at e3;have e4:ev x = .pv q:=by simpa using e3
      have hlt:i<args.size:=by
       have:=(qf.1 hx).1;simpa using this
      have hxm:x∈args:=by
       have:=List.mem_of_getElem? hx;simpa using this
      have h1:=arg_pv (e4▸ha x (ham x hxm));rw[Z2g (by simp)];have e5:args[i]? = some x:=by simpa using hx
      have e6:(args.map ρ).getD (i+1 - #[v].size) undef=ρ x:=by
       simp[Array.getD,hlt];have:=(Array.getElem?_eq_some_iff.1 e5).2;rw[this]
      rw[e6];exact h1
   ·rintro e w' ⟨u,rfl,hval,hext⟩
    exact⟨u,rfl,σ,.pv _ _ hval,fun _ _ e=>by simp[getO]at e,fun _ _=>rfl,fun _ _ _ e e'=>qN (e'.symm.trans e),hi.sep,fun _ h=>.inl h,hext.mono (fun i _ h=>h.elim)⟩
 |_=>rw[hv]at hA;cases hA
end
section
variable {P:Program} {T:Tab} {o:Oper} {ev:Operand->AV} {ob:Nat->Option AObj}
theorem Zww(args:Array Operand):∃a:Nat,Operand.tmp a∉args∧Operand.tmp (a+1)∉args:=by
 have key:∀l:List Operand,∃n:Nat,∀a:Nat,n<=a->Operand.tmp a∉l:=by
  intro l
  induction l with
  |nil=>exact⟨0,fun a _ h=>by cases h⟩
  |cons x l ih=>
   obtain⟨n,hn⟩:=ih;cases x with
   |tmp t=>
    refine⟨max n (t+1),fun a ha h=>?_⟩;rcases qk.1 h with e|h
    ·cases e;have:t+1<=t:=qF (Nat.le_max_right n (t+1)) ha;omega
    exact hn a (qF (Nat.le_max_left _ _) ha) h
   |_=>
    refine⟨n,fun a ha h=>?_⟩;rcases qk.1 h with e|h
    ·cases e
    exact hn a ha h
 obtain⟨n,hn⟩:=key args.toList;exact⟨n,fun h=>hn n (qL _) (by simpa using h),fun h=>hn (n+1) (by omega) (by simpa using h)⟩
theorem Zty{recv:Operand}{name:String}{args:Array Operand}{ts:Array TypeId}{t:TypeId}{f:FuncId}{ty:TY}{m:Method}{ρ:Operand->Value}{v:Value}(hT:T.ok P)
  (ho:o.op = .call { callee:=.invoke recv name,args:=args,argTypes:=ts }) (hv:ρ recv = .iface t v) (ht:T t=some ty) (hd:solidD ty.und=true)
  (hm:ty.info.methods.find? (·.name == name)=some m) (hp:m.path=#[]) (hf:m.func=some (f,false))
  (hc:∀(vals:Array Value) (w:World),(callFunc f vals).run P w = .ok (.enter f vals) w) (w:World):(execOp ρ o).run P w = .ok (.enter f (#[v]++args.map ρ)) w:=by
 have hme:∀n,0<n->(method n t v name).run P w = .ok (f,v) w:=fun n hn=>by
  obtain⟨k,rfl⟩:∃k,n=k+1:=⟨n-1,by omega⟩;exact Zhj hT ht hd hm hp hf k v w
 have hfuel:0<P.types.size+Made.depth:=by unfold Made.depth;omega
 have hcm:(callMethod (.iface t v) name (args.map ρ)).run P w = .ok (.enter f (#[v]++args.map ρ)) w:=by
  simp[callMethod,Sem.run_bind,hme _ hfuel,hc]
 have hx:(#[Value.iface t v]++args.map ρ).extract 1 (#[Value.iface t v]++args.map ρ).size=args.map ρ:=by
  apply Array.ext
  ·simp
  ·intro i h1 h2;simp
 have e0:(#[Value.iface t v]++args.map ρ)[0]? = some (.iface t v):=by rw[Array.getElem?_append_left (by simp)];rfl
 have e1:(args.map ρ).extract 0 args.size=args.map ρ:=by
  have:=Array.extract_size (xs:=args.map ρ);rwa[Array.size_map]at this
 simp[execOp,ho,resolve,hv,invoke,e0,e1,hcm]
open Classical in
theorem Zvo{recv:Operand}{name:String}{args:Array Operand}{ts:Array TypeId}{t:TypeId}{p:PV}{f:FuncId}{ty:TY}{m:Method}{h n:List (Nat×Nat)}{os os' u:Upd}{res v:AV}(hT:T.ok P)
  (ho:o.op = .call { callee:=.invoke recv name,args:=args,argTypes:=ts }) (hr:ev recv = .pv (.ifc t p)) (ht:T t=some ty) (hd:solidD ty.und=true)
  (hm:ty.info.methods.find? (·.name == name)=some m) (hp:m.path=#[]) (hf:m.func=some (f,false))
  (hAC:AC P f (viewV.viewL h ob (.pv p::args.toList.map ev)) os res os') (hos:handO h ob h=some os) (hinj:injH (h++n)=true) (hnear:∀c l,(c,l)∈h->near o ev ob l)
  (hn:∀c l,(c,l)∈n->ob l=none∧getO os' c≠none) (hv:renV (h++n) res=some v) (hu:renU (h++n) os'=some u) :
  StepN P o ev ob (u++goneL (lentN h (refs.refsL (.pv p::args.toList.map ev)))) v:=by
 obtain⟨a,ha1,ha2⟩:=Zww args;generalize hX:Operand.tmp a=X at ha1;generalize hY:Operand.tmp (a+1)=Y at ha2;have hXY:Y≠X:=by rw[<-hX,<-hY];intro e;cases e
 generalize hev:(fun x=>if x=X then AV.fn f []else if x=Y then AV.pv p else ev x:Operand->AV)=ev';have eX:ev' X = .fn f []:=by rw[<-hev];exact qK rfl
 have eY:ev' Y = .pv p:=by rw[<-hev];simp only[qJ hXY,if_true]
 have eA:∀x∈args,ev' x=ev x:=fun x hx=>by
  rw[<-hev];simp only;have n1:x≠X:=fun e=>ha1 (by rw[<-e];exact hx)
  have n2:x≠Y:=fun e=>ha2 (by rw[<-e];exact hx)
  rw[qJ n1,qJ n2]
 have eL:(#[Y]++args).toList.map ev' ++ [] = .pv p::args.toList.map ev:=by
  have:args.toList.map ev'=args.toList.map ev:=List.map_congr_left fun x hx=>eA x (by simpa using hx)
  simp[eY];intro x hx;exact eA x hx
 obtain⟨o',ho',hdst⟩:∃o':Oper,o'.op = .call { callee:=.value X,args:=#[Y]++args,argTypes:=ts }∧o'.dst=o.dst:=⟨{ o with op:=.call { callee:=.value X,args:=#[Y]++args,argTypes:=ts } },rfl,rfl⟩;have hback:∀x∈o'.op.operands,∀k∈refs (ev' x),∃y∈o.op.operands,k∈refs (ev y):=by
  intro x hx k hk;have hx2:x=X∨x=Y∨x∈args:=by
   simpa[ho',Op.operands,Call.operands,or_assoc]using hx
  rcases hx2 with h1|h1|h1
  ·rw[h1,eX]at hk;simp[refs,refs.refsL]at hk
  ·rw[h1,eY]at hk;simp[refs]at hk
  ·rw[eA x h1]at hk;exact⟨x,by simp[ho,Op.operands,Call.operands,h1],hk⟩
 have hforth:∀x∈o.op.operands,∀k∈refs (ev x),∃y∈o'.op.operands,k∈refs (ev' y):=by
  intro x hx k hk;have hx2:x=recv∨x∈args:=by simpa[ho,Op.operands,Call.operands]using hx
  rcases hx2 with h1|h1
  ·rw[h1,hr]at hk;simp[refs]at hk
  ·exact⟨x,by simp[ho',Op.operands,Call.operands,h1],by rw[eA x h1];exact hk⟩
 have hnb:∀k,near o' ev' ob k->near o ev ob k:=by
  rintro k (⟨x,hx,hk⟩|⟨x,hx,l,hl,obj,h1,h2⟩|⟨x,hx,l,hl,obj,h1,q,h2,h3⟩)
  ·exact .inl (hback x hx k hk)
  ·obtain⟨y,hy,hly⟩:=hback x hx l hl;exact .inr (.inl ⟨y,hy,l,hly,obj,h1,h2⟩)
  ·obtain⟨y,hy,hly⟩:=hback x hx l hl;exact .inr (.inr ⟨y,hy,l,hly,obj,h1,q,h2,h3⟩)
 have hnf:∀k,near o ev ob k->near o' ev' ob k:=by
  rintro k (⟨x,hx,hk⟩|⟨x,hx,l,hl,obj,h1,h2⟩|⟨x,hx,l,hl,obj,h1,q,h2,h3⟩)
  ·exact .inl (hforth x hx k hk)
  ·obtain⟨y,hy,hly⟩:=hforth x hx l hl;exact .inr (.inl ⟨y,hy,l,hly,obj,h1,h2⟩)
  ·obtain⟨y,hy,hly⟩:=hforth x hx l hl;exact .inr (.inr ⟨y,hy,l,hly,obj,h1,q,h2,h3⟩)
 have hS:=Zid (o:=o') (ev:=ev') ho' eX (by rw[eL];exact hAC) hos hinj (fun c l hm=>hnf l (hnear c l hm)) hn hv hu;rw[eL]at hS;refine⟨fun St M0 σ w ρ hi ha hob hne hfr=>?_,fun l hl=>(hS.rv l hl).imp (hnb l) id,fun i obj e l hl=>(hS.ro i obj e l hl).imp (hnb l) id,fun l obj e=>⟨(hS.lv l obj e).1.imp (hnb l) id,(hS.lv l obj e).2⟩⟩;have hA:=arg_pv (hr▸ha recv (by simp[ho,Op.operands,Call.operands]));cases hvr:ρ recv with
 |iface t' v0=>
  rw[hvr]at hA;cases hA with
  |ifc _ _ _ hpv=>
   generalize hrho:(fun x=>if x=X then Value.func (.func f) #[] #[]else if x=Y then v0 else ρ x:Operand->Value)=ρ';have rX:ρ' X = .func (.func f) #[] #[]:=by rw[<-hrho];exact qK rfl
   have rY:ρ' Y=v0:=by rw[<-hrho];simp only[qJ hXY,if_true]
   have rA:∀x∈args,ρ' x=ρ x:=fun x hx=>by
    rw[<-hrho];simp only;have n1:x≠X:=fun e=>ha1 (by rw[<-e];exact hx)
    have n2:x≠Y:=fun e=>ha2 (by rw[<-e];exact hx)
    rw[qJ n1,qJ n2]
   have hrun:=hS.runs St M0 σ w ρ' hi (fun x hx=>?_) (fun k hk=>hob k (hnb k hk)) (fun k hk=>hne k (hnb k hk)) hfr
   ·have e1:=Z3o (o:=o') (ρ:=ρ') (w:=w) ho' rX hAC.1;have e2:=Zty (ρ:=ρ) hT ho hvr ht hd hm hp hf hAC.1 w;unfold OpRuns at hrun ⊢;rw[e1]at hrun;rw[e2];have e3:(#[Y]++args).map ρ' ++ #[]=#[v0]++args.map ρ:=by
     have:args.map ρ'=args.map ρ:=Array.map_congr_left fun x hx=>rA x hx
     rw[Array.map_append,this];simp[rY]
    rw[e3]at hrun;exact hrun
   ·have hx2:x=X∨x=Y∨x∈args:=by
     simpa[ho',Op.operands,Call.operands,or_assoc]using hx
    rcases hx2 with h1|h1|h1
    ·rw[h1,eX,rX];exact .fn f [] #[] rfl (fun i c e=>by simp at e)
    ·rw[h1,eY,rY];exact .pv _ _ hpv
    ·rw[eA x h1,rA x h1];exact ha x (by simp[ho,Op.operands,Call.operands,h1])
 |_=>rw[hvr]at hA;cases hA
def callGenV(P:Program)(ob:Nat->Option AObj)(avs:List AV)(mf:Option FuncId)(K:AV->Upd->Prop):Prop:=
 ∃(g:FuncId) (h n:List (Nat×Nat)) (os os':Upd) (res:AV),AC P g (viewV.viewL h ob avs) os res os'∧mf=some g∧handO h ob h=some os∧
  chk (injH (h++n)) (chk (h.all fun x=>nearB ob (refs.refsL avs) x.2) (chk (n.all fun x=>(ob x.2).isNone&&(getO os' x.1).isSome) (match renV (h++n) res with
   |some v=>match renU (h++n) os' with
    |some u=>match lentN h (refs.refsL avs)with
     | []=>K v u
     |L=>forceL L fun L=>K v (u++goneL L)
    |none=>False
   |none=>False)))
theorem Zog{K:AV->Upd->Prop}{recv:Operand}{name:String}{args:Array Operand}{ts:Array TypeId}{t:TypeId}{p:PV}{ty:TY}(hT:T.ok P)
  (ho:o.op = .call { callee:=.invoke recv name,args:=args,argTypes:=ts }) (hr:ev recv = .pv (.ifc t p)) (ht:T t=some ty) (hd:solidD ty.und=true)
  (hk:callGenV P ob (.pv p::args.toList.map ev) (mfun ty.info.methods name) K) :
  ∃v u,K v u∧StepN P o ev ob u v:=by
 obtain⟨g,h,n,os,os',res,hAC,hmf,hos,hk⟩:=hk;obtain⟨m,hm,hp,hf⟩:=Zg1 hmf;obtain⟨h1,hk⟩:=Z02 hk;obtain⟨h2,hk⟩:=Z02 hk;obtain⟨h3,hk⟩:=Z02 hk
 split at hk
 ·rename_i v hv
  split at hk
  ·rename_i u hu;have hs:=Zvo hT ho hr ht hd hm hp hf hAC hos h1 (fun c l hm=>?_) (fun c l hm=>?_) hv hu
   ·split at hk
    ·rename_i hL;rw[hL]at hs;exact⟨v,u,hk,by simpa[goneL]using hs⟩
    rw[Z4d]at hk;exact⟨v,_,hk,hs⟩
   ·have:=qz.1 h2 (c,l) hm;simp only[nearB,Bool.or_eq_true]at this;have hsrc:∀k∈refs.refsL (.pv p::args.toList.map ev),∃x∈o.op.operands,k∈refs (ev x):=by
     intro k hk;obtain⟨i,c,h1,h2⟩:=refsG hk;cases i with
     |zero=>simp at h1;subst h1;simp[refs]at h2
     |succ i=>
      rw[List.getElem?_cons_succ,qx]at h1;cases hx:args.toList[i]? with
      |none=>rw[hx]at h1;cases h1
      |some x=>
       rw[hx]at h1;have e4:ev x=c:=by simpa using h1
       have hxm:x∈args:=by
        have:=List.mem_of_getElem? hx;simpa using this
       exact⟨x,by simp[ho,Op.operands,Call.operands,hxm],e4▸h2⟩
    rcases this with h4|h4
    ·exact .inl (hsrc l (List.contains_iff_mem.1 h4))
    obtain⟨k,hk,h5⟩:=List.any_eq_true.1 h4;obtain⟨x,hx,hkx⟩:=hsrc k hk
    split at h5
    ·rename_i obj hob;rcases Bool.or_eq_true _ _▸h5 with h5|h5
     ·exact .inr (.inl ⟨x,hx,k,hkx,obj,hob,List.contains_iff_mem.1 h5⟩)
     obtain⟨k',hk',h6⟩:=List.any_eq_true.1 h5
     split at h6
     ·rename_i obj' hob';exact .inr (.inr ⟨x,hx,k,hkx,obj,hob,k',hk',obj',hob',List.contains_iff_mem.1 h6⟩)
     cases h6
    cases h5
   have:=qz.1 h3 (c,l) hm;simp only[qc,Option.isNone_iff_eq_none]at this;exact⟨this.1,fun e=>by rw[e]at this;simp at this⟩
  exact hk.elim
 exact hk.elim
end
section
variable {P:Program} {T:Tab} {o:Oper} {ev:Operand->AV} {ob:Nat->Option AObj} {K:AV->Upd->Prop}
theorem Z10{x:Operand}{k:Nat}(hx:x∈o.op.operands)(h:k∈refs (ev x)):near o ev ob k:=.inl ⟨x,hx,h⟩
theorem Z5o{x:Operand}{k l:Nat}{obj:AObj}(hx:x∈o.op.operands)(h:l∈refs (ev x))(ho:ob l=some obj)(hk:k∈refsO obj):near o ev ob k:=.inr (.inl ⟨x,hx,l,h,obj,ho,hk⟩)
theorem at_box{St M0:Nat->Prop}{σ:Sig}{w:World}{l:Nat}{cs:List AV}(h:At P w St M0 σ l (.box cs)):∃b vs t,σ l=some ⟨.pointer (some ⟨b,0,none⟩),some b⟩∧w.heap[b]? = some (.cells vs t (0,0))∧vs.size=cs.length∧
  (∀i p,cs[i]? = some p->AR P w St (Mof M0 σ) σ p (vs.getD i undef))∧∀i,i<vs.size->(vs.getD i undef).oneCell'=true:=by
 obtain⟨loc,hl,ho⟩:=h;cases ho with
 |box cs b vs t hb hs hp h1=>exact⟨b,vs,t,hl,hb,hs,hp,h1⟩
theorem Z4r:∀ {cs:List AV} {l:Nat},l∈refs.refsL cs->∃(i:Nat) (c:AV),cs[i]? = some c∧l∈refs c
 |c::cs,l,h=>by
  simp only[refs.refsL,qo]at h;rcases h with h|h
  ·exact⟨0,c,by simp,h⟩
  obtain⟨i,x,h1,h2⟩:=Z4r h;exact⟨i+1,x,by simpa using h1,h2⟩
theorem Zvv{t:TypeId}{x:Operand}{l off:Nat}{cs:List AV}{ty:TY}{v:AV}(hT:T.ok P)(ho:o.op = .load t x)(ht:T t=some ty)(hx:ev x = .ptr l off)(hob:ob l=some (.box cs))(hd:aggD ty.und=false)(hv:cs[off]? = some v) :
  StepN P o ev ob [] v:=by
 have hxm:x∈o.op.operands:=by simp[ho,Op.operands]
 refine⟨fun St M0 σ w ρ hi ha hobj hn hf=>?_,fun k hk=>.inl (Z5o hxm (by simp[hx,refs]) hob (by simp only[refsO];exact Z07 hv k hk)),fun i obj e=>by simp[getO]at e,fun k obj e=>by simp[getO]at e⟩;obtain⟨b,vs,t',hl,hb,hs,hq,h1⟩:=at_box (hobj l (Z10 hxm (by simp[hx,refs])) _ hob);obtain⟨b',hb',hp⟩:=Z1n (hx▸ha x hxm) hl;cases hb';obtain⟨_,hu,_⟩:=hT t ty ht;have hlt:off<vs.size:=by rw[hs];exact(qf.1 hv).1
 have hagg:(isAgg t).run P w = .ok false w:=by
  unfold aggD at hd
  split at hd
  ·cases hd
  ·cases hd
  simp only[isAgg,Sem.run_bind,run_underlying hu,Result.andThen_ok];rfl
 have hz:w.cell? ⟨b,off,none⟩=some (vs.getD off undef):=by simp[World.cell?,hb,Array.getD,hlt]
 unfold OpRuns;rw[show(execOp ρ o).run P w = .ok (.value (vs.getD off undef)) w from by simp[execOp,ho,hp,Instr.loadAt,Instr.sureAddr,loadVar,hagg,hz]];exact⟨σ,Post.still hi.sep (hq off v hv)⟩
theorem Zar{cs:List AV}{off n l:Nat}(h:l∈refs.refsL ((cs.drop off).take n)):l∈refs.refsL cs:=by
 obtain⟨i,c,h1,h2⟩:=Z4r h;rw[qm]at h1
 split at h1
 ·rw[qA]at h1;exact Z07 h1 l h2
 cases h1
theorem Zvw{t:TypeId}{x:Operand}{l off:Nat}{cs:List AV}{ty:TY}(hT:T.ok P)(ho:o.op = .load t x)(ht:T t=some ty)(hx:ev x = .ptr l off)(hob:ob l=some (.box cs))(hd:aggD ty.und=true)(hfit:off+ty.info.size<=cs.length) :
  StepN P o ev ob [] (.mix ((cs.drop off).take ty.info.size)):=by
 have hxm:x∈o.op.operands:=by simp[ho,Op.operands]
 refine⟨fun St M0 σ w ρ hi ha hobj hn hf=>?_,fun k hk=>.inl (Z5o hxm (by simp[hx,refs]) hob (by simp only[refsO];exact Zar (by simpa[refs]using hk))),fun i obj e k hk=>by simp[getO]at e,fun k obj e=>by simp[getO]at e⟩;obtain⟨b,vs,t',hl,hb,hs,hq,h1⟩:=at_box (hobj l (Z10 hxm (by simp[hx,refs])) _ hob);obtain⟨b',hb',hpt⟩:=Z1n (hx▸ha x hxm) hl;cases hb';obtain⟨hin,hu,_⟩:=hT t ty ht;have hagg:(isAgg t).run P w = .ok true w:=by
  unfold aggD at hd
  split at hd
  ·rename_i e;simp[isAgg,run_underlying (e▸hu)]
  ·rename_i e;simp[isAgg,run_underlying (e▸hu)]
  ·cases hd
 have hsz:(sizeOf t).run P w = .ok ty.info.size w:=by simp[sizeOf,Z0o hin]
 have hload:=run_loadCells (P:=P) w ⟨b,off,none⟩ ty.info.size (fun j=>vs.getD (off+j) undef) (fun j hj=>by
  have hlt:off+j<vs.size:=by omega
  have hadd:(⟨b,off,none⟩:Addr).add j=⟨b,off+j,none⟩:=by unfold Addr.add;split<;>simp_all
  rw[hadd];simp[World.cell?,hb,Array.getD,hlt])
 unfold OpRuns;rw[show(execOp ρ o).run P w = .ok (.value (.agg ((List.range ty.info.size).map fun j=>vs.getD (off+j) undef).toArray)) w from by simp[execOp,ho,hpt,Instr.loadAt,Instr.sureAddr,loadVar,hagg,hsz,hload]];have hlen:((cs.drop off).take ty.info.size).length=ty.info.size:=by simp;omega
 refine⟨σ,Post.still hi.sep (.mix _ _ (by simp[hlen]) (fun i c e=>?_) (fun i hi'=>?_))⟩
 ·have hi2:i<ty.info.size:=by rw[<-hlen];exact(qf.1 e).1
  have hc2:cs[off+i]? = some c:=by
   rw[qm,qK hi2,qA]at e;exact e
  have:(((List.range ty.info.size).map fun j=>vs.getD (off+j) undef).toArray.getD i undef)=vs.getD (off+i) undef:=by simp[Array.getD,hi2]
  rw[this];exact hq _ c hc2
 ·have hi2:i<ty.info.size:=by simpa using hi'
  have:(((List.range ty.info.size).map fun j=>vs.getD (off+j) undef).toArray.getD i undef)=vs.getD (off+i) undef:=by simp[Array.getD,hi2]
  rw[this];exact h1 _ (by omega)
def putCells(ob:Nat->Option AObj):AV->Option (List AV)
 | .pv p=>match pone p with
  |true=>some ((pcells p).map .pv)
  |false=>none
 | .own l=>match ob l with
  |some (.row _ _ _)=>some [.own l]
  |_=>none
 | .ref l=>match ob l with
  |some (.map _ _)=>some [.ref l]
  |_=>none
 | .ptr l off=>match liveO (ob l)with
  |true=>some [.ptr l off]
  |false=>none
 | .fn f caps=>some [.fn f caps]
 | .clo d b gb gi=>some [.clo d b gb gi]
 | .mix cs=>some cs
 |_=>none
theorem Zaj{St M0:Nat->Prop}{σ:Sig}{w:World}{x:AV}{v:Value}{qs:List AV}(h:putCells ob x=some qs)(hA:AR P w St (Mof M0 σ) σ x v)(hobj:∀l∈refs x,∀obj,ob l=some obj->At P w St M0 σ l obj) :
  v.cells.size=qs.length∧(∀(i:Nat) (q:AV),qs[i]? = some q->AR P w St (Mof M0 σ) σ q (v.cells.getD i undef))∧∀i,i<v.cells.size->(v.cells.getD i undef).oneCell'=true:=by
 have one:∀(x:AV) (v:Value),AR P w St (Mof M0 σ) σ x v->v.oneCell'=true->v.cells.size = [x].length∧(∀(i:Nat) (q:AV),[x][i]? = some q->AR P w St (Mof M0 σ) σ q (v.cells.getD i undef))∧∀i,i<v.cells.size->(v.cells.getD i undef).oneCell'=true:=by
  intro x v hx hv;have hc:v.cells=#[v]:=by cases v<;>first|rfl|cases hv
  rw[hc];refine⟨rfl,fun i q e=>?_,fun i hi=>?_⟩
  ·cases i with
   |zero=>simp at e;subst e;exact hx
   |succ i=>simp at e
  have:i=0:=by simpa using hi
  subst this;exact hv
 unfold putCells at h
 split at h
 ·split at h
  ·rename_i hp;cases h;obtain⟨h1,h2,h3⟩:=Z4p (arg_pv hA) hp;refine⟨by simp[h1],fun i q e=>?_,h3⟩;rw[qx]at e;cases hq:(pcells _)[i]? with
   |none=>rw[hq]at e;cases e
   |some y=>rw[hq]at e;cases e;exact .pv _ _ (h2 i y hq)
  cases h
 ·rename_i l
  split at h
  ·rename_i s n f hob;cases h;obtain⟨loc,hl,hor⟩:=hobj l (by simp[refs]) _ hob;have hv:=Z0l hA hl;refine one _ _ hA ?_;rw[hv];cases hor<;>rfl
  cases h
 ·rename_i l
  split at h
  ·rename_i kk look hob;cases h;obtain⟨loc,hl,hor⟩:=hobj l (by simp[refs]) _ hob;have hv:=Z1w hA hl;refine one _ _ hA ?_;rw[hv];cases hor<;>rfl
  cases h
 ·rename_i l off
  split at h
  ·rename_i hlv;cases h;obtain⟨obj,e,hg⟩:=Z3k hlv;obtain⟨loc,hl,_⟩:=Z0q (hobj l (by simp[refs]) _ e) hg;obtain⟨b,_,hv⟩:=Z1n hA hl;refine one _ _ hA ?_;rw[hv];rfl
  cases h
 ·cases h;refine one _ _ hA ?_;cases hA;rfl
 ·cases h;refine one _ _ hA ?_;cases hA;rfl
 ·cases h;cases hA with
  |mix _ vs hl hh h1=>exact⟨hl,hh,h1⟩
 cases h
theorem Z7g{x:AV}{qs:List AV}(h:putCells ob x=some qs):∀l∈refs.refsL qs,l∈refs x:=by
 intro l hl;unfold putCells at h
 split at h
 ·split at h
  ·cases h;obtain⟨i,c,h1,h2⟩:=Z4r hl;rw[qx]at h1;cases hq:(pcells _)[i]? with
   |none=>rw[hq]at h1;cases h1
   |some y=>rw[hq]at h1;cases h1;simp[refs]at h2
  cases h
 ·split at h
  ·cases h;simpa[refs.refsL]using hl
  cases h
 ·split at h
  ·cases h;simpa[refs.refsL]using hl
  cases h
 ·split at h
  ·cases h;simpa[refs.refsL]using hl
  cases h
 ·cases h;simpa[refs.refsL]using hl
 ·cases h;simp[refs.refsL,refs]at hl
 ·cases h;simpa[refs]using hl
 cases h
def boxC:AObj->Option (List AV)
 | .box cs=>some cs
 | .pbox cs=>some (cs.map .pv)
 |_=>none
theorem Zd4{P:Program}{St M0:Nat->Prop}{σ:Sig}{w:World}{l:Nat}{o:AObj}{cs:List AV}(hc:boxC o=some cs)(h:At P w St M0 σ l o):∃b vs t,σ l=some ⟨.pointer (some ⟨b,0,none⟩),some b⟩∧w.heap[b]? = some (.cells vs t (0,0))∧vs.size=cs.length∧
  (∀i p,cs[i]? = some p->AR P w St (Mof M0 σ) σ p (vs.getD i undef))∧∀i,i<vs.size->(vs.getD i undef).oneCell'=true:=by
 cases o<;>simp only[boxC,qw,reduceCtorEq]at hc
 ·rename_i ds;subst hc;obtain⟨b,vs,t,h1,h2,h3,h4,h5⟩:=Z44 h;refine⟨b,vs,t,h1,h2,by simp[h3],fun i p e=>?_,h5⟩;rw[qx]at e;cases hq:ds[i]? with
  |none=>rw[hq]at e;cases e
  |some q=>rw[hq]at e;cases e;exact .pv _ _ (h4 i q hq)
 subst hc;exact at_box h
theorem Zda{o:AObj}{cs:List AV}(hc:boxC o=some cs){k:Nat}(h:k∈refs.refsL cs):k∈refsO o:=by
 cases o<;>simp only[boxC,qw,reduceCtorEq]at hc
 ·rename_i ds;subst hc;obtain⟨i,c,h1,h2⟩:=Z4r h;rw[qx]at h1;cases hq:ds[i]? with
  |none=>rw[hq]at h1;cases h1
  |some q=>rw[hq]at h1;cases h1;simp[refs]at h2
 subst hc;simpa[refsO]using h
theorem Zoe{o:AObj}{cs:List AV}(hc:boxC o=some cs):liveO (some o)=true:=by
 cases o<;>simp only[boxC,reduceCtorEq]at hc<;>rfl
theorem Zi5{cs qs:List AV}{off l:Nat}(hfit:off+qs.length<=cs.length)(h:l∈refs.refsL (splice cs off qs)):l∈refs.refsL cs∨l∈refs.refsL qs:=by
 obtain⟨i,c,h1,h2⟩:=Z4r h;rw[Z33 off cs qs i hfit]at h1
 split at h1
 ·exact .inr (Z07 h1 l h2)
 exact .inl (Z07 h1 l h2)
theorem Zii{t:TypeId}{x y:Operand}{l off:Nat}{cs qs:List AV}{bo:AObj}{ty:TY}(hbc:boxC bo=some cs)(hT:T.ok P)(ho:o.op = .store t x y)(ht:T t=some ty)(hx:ev x = .ptr l off)(hob:ob l=some bo)(hq:putCells ob (ev y)=some qs)
  (hsz:qs.length=ty.info.size) (hfit:off+qs.length<=cs.length):StepN P o ev ob [(l,.box (splice cs off qs))] .junk:=by
 have hxm:x∈o.op.operands:=by simp[ho,Op.operands]
 have hym:y∈o.op.operands:=by simp[ho,Op.operands]
 refine⟨fun St M0 σ w ρ hi ha hobj hn hf=>?_,fun k hk=>by simp[refs]at hk,fun i obj e k hk=>?_,fun k obj e=>?_⟩
 ·obtain⟨b,vs,t',hl,hb,hs,hc,hone⟩:=Zd4 hbc (hobj l (Z10 hxm (by simp[hx,refs])) _ hob);obtain⟨b',hb',hv⟩:=Z1n (hx▸ha x hxm) hl;cases hb';obtain⟨hcs,hcp,hc1⟩:=Zaj hq (ha y hym) (fun k hk obj e=>hobj k (Z10 hym hk) obj e);have hr:=Zb0 (w:=w) (off:=off) hT ht hb (by rw[hcs,hsz]) (by rw[hcs,hs];exact hfit) hc1;unfold OpRuns;rw[show(execOp ρ o).run P w = .ok .skip (w.setRow b (cut vs off (ρ y).cells.toList))from by simp[execOp,ho,hv,Instr.storeAt,Instr.sureAddr,hr]];have hx':=Z5e w b (cut vs off (ρ y).cells.toList);have hsame:=Z31 (M0:=M0) hl rfl hx';have hst:=Zup hi hl rfl hx';have hfit':off+(ρ y).cells.toList.length<=vs.size:=by simp[hcs,hs];exact hfit
  refine⟨σ,Post.upd hi hl rfl hx' (by simp) (.box _ b _ t' (setRow_heap w b vs _ t' _ hb) (by rw[Z14 hfit',hs,Z29]) (fun i q e=>?_) (fun i hi'=>?_)) (.junk _)⟩
  ·have hlt:i<vs.size:=by
    have:=(qf.1 e).1;rw[Z29]at this;omega
   rw[Z33 off cs _ i hfit]at e;rw[Z1c hfit' i];have e1:(ρ y).cells.toList.length=qs.length:=by simp[hcs]
   rw[e1]
   split at e
   ·rename_i hc;rw[qK hc];have:=(hcp _ q e).mono hsame (fun _ _ h=>h) hst (fun _ _ _ h=>h);simpa[qb,List.getD]using this
   rename_i hc';rw[qJ hc'];exact(hc i q e).mono hsame (fun _ _ h=>h) hst (fun _ _ _ h=>h)
  rw[Z14 hfit']at hi';rw[Z1c hfit' i]
  by_cases hc:off<=i∧i<off+(ρ y).cells.toList.length
  ·rw[qK hc];have:=hc1 (i-off) (by simp at hc;omega);simpa[qb,List.getD]using this
  rw[qJ hc];exact hone i hi'
 ·rw[Z04]at e
  split at e
  ·cases e;simp only[refsO]at hk;rcases Zi5 hfit hk with h|h
   ·exact .inl (Z5o hxm (by simp[hx,refs]) hob (Zda hbc h))
   exact .inl (Z10 hym (Z7g hq k h))
  cases e
 rw[Z04]at e
 split at e
 ·rename_i h;subst h;exact⟨.inl (Z10 hxm (by simp[hx,refs])),.inr (.inl (by rw[hob];exact Zoe hbc))⟩
 cases e
def forceA:List AV->(List AV->Prop)->Prop
 | [],K=>K []
 |x::r,K=>force x fun x=>forceA r fun r=>K (x::r)
theorem Z3e:∀ {l:List AV} {K:List AV->Prop},forceA l K=K l
 | [],_=>rfl
 |x::r,K=>by rw[forceA,Z2x,Z3e]
theorem StepN.mixpv{cs:List AV}{ps:List PV}{u:Upd}(h:StepN P o ev ob u (.mix cs))(hp:pvL cs=some ps):StepN P o ev ob u (.pv (.agg ps)):=by
 obtain⟨hlen,hget⟩:=Z3m hp;refine⟨fun St M0 σ w ρ hi ha hobj hn hf=>(h.runs St M0 σ w ρ hi ha hobj hn hf).mono' ?_,fun k hk=>by simp[refs]at hk,h.ro,h.lv⟩
 rintro v' w' ⟨σ',hq⟩
 refine⟨σ',?_,hq.obj,hq.old,hq.stay,hq.sep,hq.blk,hq.ext⟩;have:=hq.val;cases this with
 |mix _ vs hl hh h1=>exact .pv _ _ (.agg _ _ (by rw[hl,hlen]) (fun i p e=>arg_pv (hh i _ (hget i p e))) h1)
theorem Zvd{t:TypeId}{x:Operand}{f:Nat}{cs:List AV}{ty fty:TY}{fs:Array Field}{fd:Field}(hT:T.ok P)(ho:o.op = .field t x f)(hx:ev x = .mix cs)(ht:T t=some ty)(hu:ty.und = .struct fs)(hf:fs[f]? = some fd)(hft:T fd.type=some fty)
  (hd:aggD fty.und=true) (hle:fd.offset+fty.info.size<=cs.length):StepN P o ev ob [] (.mix ((cs.drop fd.offset).take fty.info.size)):=by
 have hxm:x∈o.op.operands:=by simp[ho,Op.operands]
 refine⟨fun St M0 σ w ρ hi ha hobj hn hf'=>?_,fun k hk=>.inl (Z10 hxm (by rw[hx];simp only[refs]at hk ⊢;exact Zar hk)),fun i obj e k hk=>by simp[getO]at e,fun k obj e=>by simp[getO]at e⟩;obtain⟨_,hun,_⟩:=hT _ _ ht;obtain⟨hfi,hfu,_⟩:=hT _ _ hft;rw[hu]at hun;have hA:=ha x hxm;rw[hx]at hA;generalize hv:ρ x=v at hA;cases hA with
 |mix _ vs hl hh h1=>
  have hag:(isAgg fd.type).run P w = .ok true w:=by
   cases hd':fty.und<;>simp[hd',aggD]at hd<;>simp[isAgg,run_underlying hfu,hd']
  have hsz:(sizeOf fd.type).run P w = .ok fty.info.size w:=by simp[sizeOf,Z0o hfi]
  have gx:∀j,j<fty.info.size->(vs.extract fd.offset (fd.offset+fty.info.size)).getD j undef=vs.getD (fd.offset+j) undef:=by
   intro j hj;simp[qb,show j<min (fd.offset+fty.info.size) vs.size-fd.offset from by omega,show fd.offset+j<vs.size from by omega]
  unfold OpRuns;rw[show(execOp ρ o).run P w = .ok (.value (.agg (vs.extract fd.offset (fd.offset+fty.info.size)))) w from by simp[execOp,ho,hv,Instr.field,run_underlying hun,hf,asAgg,part,hag,hsz]];refine⟨σ,Post.still hi.sep (.mix _ _ (by simp;omega) (fun j q e=>?_) (fun j hj=>?_))⟩
  ·have hj:j<fty.info.size:=by have:=(qf.1 e).1;simp at this;omega
   rw[gx j hj];rw[qm,qK hj,qA]at e;exact hh _ q e
  have hj':j<fty.info.size:=by simp at hj;omega
  rw[gx j hj'];exact h1 _ (by omega)
theorem Zve{t:TypeId}{x:Operand}{f:Nat}{cs:List AV}{ty fty:TY}{fs:Array Field}{fd:Field}{v:AV}(hT:T.ok P)(ho:o.op = .field t x f)(hx:ev x = .mix cs)(ht:T t=some ty)(hu:ty.und = .struct fs)(hf:fs[f]? = some fd)(hft:T fd.type=some fty)
  (hd:aggD fty.und=false) (hc:cs[fd.offset]? = some v):StepN P o ev ob [] v:=by
 have hxm:x∈o.op.operands:=by simp[ho,Op.operands]
 refine⟨fun St M0 σ w ρ hi ha hobj hn hf'=>?_,fun k hk=>.inl (Z10 hxm (by rw[hx];simp only[refs];exact Z07 hc k hk)),fun i obj e k hk=>by simp[getO]at e,fun k obj e=>by simp[getO]at e⟩;obtain⟨_,hun,_⟩:=hT _ _ ht;obtain⟨hfi,hfu,_⟩:=hT _ _ hft;rw[hu]at hun;have hA:=ha x hxm;rw[hx]at hA;generalize hv:ρ x=u at hA;cases hA with
 |mix _ vs hl hh h1=>
  have hag:(isAgg fd.type).run P w = .ok false w:=by
   cases hd':fty.und<;>simp[hd',aggD]at hd<;>simp[isAgg,run_underlying hfu,hd']
  have hlt:fd.offset<vs.size:=by rw[hl];exact(qf.1 hc).1
  unfold OpRuns;rw[show(execOp ρ o).run P w = .ok (.value (vs.getD fd.offset undef)) w from by simp[execOp,ho,hv,Instr.field,run_underlying hun,hf,asAgg,part,hag,Array.getD,hlt]];exact⟨σ,Post.still hi.sep (hh _ _ hc)⟩
theorem Zuw{e:TypeId}{x:Operand}{d:Nat}{qs:List AV}(ho:o.op = .box e x)(hq:putCells ob (ev x)=some qs)(hd:ob d=none):StepN P o ev ob [(d,.box qs)] (.ptr d 0):=by
 have hxm:x∈o.op.operands:=by simp[ho,Op.operands]
 refine⟨fun St M0 σ w ρ hi ha hobj hn hf=>?_,fun l hl=>.inr ?_,fun i obj e l hl=>?_,fun l obj e=>?_⟩
 ·have hfr:σ d=none:=hf d (by simp[getO]) hd;obtain⟨h1,h2,h3⟩:=Zaj hq (ha x hxm) (fun l hl obj e=>hobj l (Z10 hxm hl) obj e);have hr:(execOp ρ o).run P w = .ok (.value (.pointer (some ⟨w.heap.size,0,none⟩))) (w.alloc (.cells (ρ x).cells e)):=by
   simp[execOp,ho,Instr.box,newVar,newRow,World.alloc_eq]
  unfold OpRuns;rw[hr];have hM:∀b,b<w.heap.size->Mof M0 (upd1 σ d ⟨.pointer (some ⟨w.heap.size,0,none⟩),some w.heap.size⟩) b->Mof M0 σ b:=Z5n (fun b hb=>by cases hb;exact qL _);refine⟨upd1 σ d ⟨.pointer (some ⟨w.heap.size,0,none⟩),some w.heap.size⟩,Post.new hi hfr (loc:=⟨.pointer (some ⟨w.heap.size,0,none⟩),some w.heap.size⟩) (fun b hb=>by cases hb;rfl) (by simp) ?_ ?_⟩
  ·refine .box _ _ (ρ x).cells e (Z0g w _) h1 (fun i c hc=>?_) h3;refine(h2 i c hc).mono (Z2o _ w _) hM (fun b _ hb=>Z12 w _ b hb) (fun l hl loc hloc=>?_);have hne:l≠d:=fun e=>by
    subst e;exact hn l (Z10 hxm (Z7g hq l (Z07 hc l hl))) hd
   simpa[upd1,hne]using hloc
  refine .ptr _ _ _ fun loc h=>⟨w.heap.size,?_⟩
  simp[upd1]at h;subst h;exact⟨rfl,rfl⟩
 ·simp[refs]at hl;subst hl;simp[getO]
 ·rw[Z04]at e
  split at e
  ·cases e;exact .inl (Z10 hxm (Z7g hq l (by simpa[refsO]using hl)))
  cases e
 rw[Z04]at e
 split at e
 ·rename_i h;subst h;exact⟨.inr hd,.inl hd⟩
 cases e
def isMapT(T:Tab)(t:TypeId):Bool:=
 match T t with
 |some ty=>match ty.und with
  | .map _ _=>true
  |_=>false
 |none=>false
theorem Zqp(hT:T.ok P){t:TypeId}(ht:isMapT T t=true):∃k e,P.underlying t=some (.map k e):=by
 unfold isMapT at ht
 split at ht
 ·rename_i ty hty;obtain⟨_,hu,_⟩:=hT _ _ hty
  split at ht
  ·rename_i k e he;exact⟨k,e,by rw[hu,he]⟩
  cases ht
 cases ht
theorem Zig{t:TypeId}{x:Operand}{kk:KK}{look:Value->Option PV}{d:Nat}(hT:T.ok P)(ho:o.op = .range t x)(hx:ev x = .pv (.map kk look))(hs:isMapT T t=true):Step P o ev ob [(d,.miter kk look [])] (.ref d):=by
 have hxm:x∈o.op.operands:=by simp[ho,Op.operands]
 have hback:∀u∈o.op.operands,refs (ev u) = []:=by
  intro u hu;simp[ho,Op.operands]at hu;subst hu;rw[hx];rfl
 refine⟨?_,fun l hl=>.inr (by simp[refs]at hl;subst hl;simp[getO]),fun i obj e' l hl=>by rw[Z04]at e';split at e'<;>cases e';simp[refsO]at hl,fun l obj e' ⟨x,hx,hl⟩=>by rw[hback x hx]at hl;simp at hl⟩;intro St M0 σ w ρ hi ha hobj hf;have hfr:σ d=none:=by
  rcases hf d (by simp[getO])with⟨x,hx,hl⟩|⟨h,_⟩
  ·rw[hback x hx]at hl;simp at hl
  ·exact h
 have hp:=arg_pv (hx▸ha x hxm);obtain⟨m,es,clock,hv,hm,hM,hat⟩:=pr_map hp;obtain⟨k,e,hu⟩:=Zqp hT hs;unfold OpRuns;rw[show(execOp ρ o).run P w = .ok (.value (.pointer (some ⟨w.heap.size,0,none⟩))) (w.alloc (.mapIter (some m) clock #[] clock))from by
  simp only[execOp,ho,Instr.range,Sem.run_bind,run_underlying hu,hv,MapKept.run_getObj_map hm,Result.andThen];rfl]
 have hsame:=Z2o (Mof M0 σ) w (.mapIter (some m) clock #[] clock);have hmof:=Z5n (M0:=M0) (σ:=σ) (id:=d) (loc:=⟨.pointer (some ⟨w.heap.size,0,none⟩),some w.heap.size⟩) (n:=w.heap.size) (fun b hb=>by cases hb;exact qL _);have hlt:=Z0e hm;rw[hv]at hp;refine⟨_,Post.new (loc:=⟨.pointer (some ⟨w.heap.size,0,none⟩),some w.heap.size⟩) hi hfr (fun b hb=>by cases hb;rfl) (by simp)
  (.miter kk look [] _ m es clock #[] (Z0g w _) (hp.mono hsame hmof) ((Z12 w _ m hlt).trans hm) (fun h=>hM (hmof m hlt h)) (fun i e _=>by simp) (fun k s e=>by cases e)) (.ref _ _ fun lc h=>by simp[upd1]at h;rw[<-h])⟩
theorem Zpk{w w1:World}{r:Nat}(h:w1=w∨w1=w.drew)(x:Obj)(hr:r<w.heap.size):FExt (fun b=>b=r) w (ChangeMaps.setBlock w1 r x):=by
 have hh:w1.heap=w.heap:=by rcases h with rfl|rfl<;>rfl
 refine⟨?_,?_,?_,?_,fun b hb hne=>?_,?_⟩
 ·rcases h with rfl|rfl<;>rfl
 ·rcases h with rfl|rfl<;>rfl
 ·rcases h with rfl|rfl<;>rfl
 ·show w.heap.size<=(w1.heap.setIfInBounds r x).size
  rw[hh];simp
 ·show(w1.heap.setIfInBounds r x)[b]? = _
  rw[hh];simp[Ne.symm hne]
 rcases h with rfl|rfl
 ·exact qL _
 exact Nat.le_succ _
theorem Zrt{x:Operand}{kk:KK}{look:Value->Option PV}{seen:List Value}{l:Nat}(ho:o.op = .next x false)(hx:ev x = .ref l)
  (h1:∀k p,kk.has k->look k=some p->k∉seen->K (.pv (.tup [.val (.bool true),ofConst k,p])) [(l,.miter kk look (k::seen))]) (h2:(∀k p,kk.has k->look k=some p->k∈seen)->K (.pv (.tup [.val (.bool false)])) [])
  {St M0:Nat->Prop} {σ:Sig} {w:World} {ρ:Operand->Value} (hi:Inv St M0 σ w) (ha:AR P w St (Mof M0 σ) σ (ev x) (ρ x)) (hob:At P w St M0 σ l (.miter kk look seen)) :
  OpRuns P o ρ w (fun v' w'=>∃p u σ',K (.pv p) u∧Post P St M0 σ w u (.pv p) σ' v' w'∧(u = []∨∃k,u = [(l,.miter kk look (k::seen))])):=by
 obtain⟨loc,hl,hor⟩:=hob;have hv:=Z1w (hx▸ha) hl;cases hor with
 |miter _ _ _ r m es clock sb hr hp hm hM hs _=>
  obtain⟨m',es',clock',e1,hm',_,hat⟩:=pr_map hp;cases e1;rw[hm]at hm';cases hm';have hborn:∀x∈es.toList,x.born<clock:=fun x hx=>by
   obtain⟨i,hi⟩:=List.getElem?_of_mem hx;exact hat.keys.2.born i x (by simpa using hi)
  have hleft:∀e,e∈(leftOf es sb).toList↔(∃i:Nat,es[i]? = some e)∧e.born∉sb:=fun e=>by
   unfold leftOf;rw[Array.mem_toList_iff,Array.mem_filter,Array.mem_iff_getElem? (xs:=es)];simp
  have fin:∀(p:PV) (v':Value) (w':World),(Instr.next (.pointer (some ⟨r,0,none⟩)) false o.type).run P w = .ok v' w'->(execOp ρ o).run P w = .ok (.value v') w':=by
   intro p v' w' hrun;simp only[execOp,ho,hv,Sem.run_bind,hrun];simp
  rcases run_next_at (P:=P) w o.type r m clock clock sb es clock hr hm hborn (qL _)with⟨h0,hrun⟩|⟨e,he,w1,hw1,hrun⟩
  ·unfold OpRuns;rw[fin (.tup []) _ _ hrun];refine⟨_,_,σ,h2 fun k p hk hlk=>?_,Post.still hi.sep (.pv _ _ (.tup _ _ rfl fun i q e=>?_)),.inl rfl⟩
   ·obtain⟨i,e,h3,h4,_⟩:=hat.som k p hk hlk;have hnl:e∉(leftOf es sb).toList:=by
     have:(leftOf es sb).toList = []:=by rw[<-List.length_eq_zero_iff];simpa using h0
     rw[this];simp
    rw[hleft]at hnl;have h5:e.born∈sb:=Classical.not_not.1 fun h=>hnl ⟨⟨i,h3⟩,h⟩
    rw[<-h4];exact(hs i e h3).1 h5
   match i,e with
   |0,e=>simp at e;subst e;exact .val _
   |i+1,e=>simp at e
  obtain⟨⟨i,hi'⟩,hnb⟩:=(hleft e).1 he;have hkey:=hat.keys.1 i e hi';have hns:e.key∉seen:=fun h=>hnb ((hs i e hi').2 h)
  have hlt:r<w.heap.size:=Z0e hr;have hx2:=Zpk (w:=w) hw1 (.mapIter (some m) clock (sb.push e.born) clock) hlt;have hsame:=Z31 (M0:=M0) hl rfl hx2;have hh:w1.heap=w.heap:=by rcases hw1 with rfl|rfl<;>rfl
  have hmr:m≠r:=fun h=>by rw[h,hr]at hm;cases hm
  cases hlk:look e.key with
  |none=>exact absurd rfl (hat.non e.key hkey hlk i e hi')
  |some p=>
   obtain⟨j,e',h3,h4,h5,_⟩:=hat.som e.key p hkey hlk;have hij:=hat.keys.2.key j i e' e h3 hi' h4;subst hij;rw[hi']at h3;cases h3;unfold OpRuns;rw[fin p _ _ hrun];refine⟨_,_,σ,h1 e.key p hkey hlk hns,Post.upd hi hl rfl hx2 (by simp) (.miter kk look (e.key::seen) r m es clock (sb.push e.born) ?_ (hp.mono hsame (fun _ _ h=>h)) ?_ hM (fun k x hk=>?_) (fun k s hk=>by cases hk;exact⟨j,e,hi',rfl,by simp⟩)) (.pv _ _ (.tup _ _ rfl fun q y hq=>?_)),.inr ⟨_,rfl⟩⟩
   ·show(w1.heap.setIfInBounds r _)[r]? = _
    rw[hh];simp[hlt]
   ·exact(hsame.2 m (Z0e hm) hM).trans hm
   ·rw[Array.mem_push,qk,hs k x hk];constructor
    ·rintro (h|h)
     ·exact .inr h
     have:=hat.keys.2.inj k j x e hk hi' h;subst this;rw[hk]at hi';cases hi';exact .inl rfl
    rintro (h|h)
    ·have:=hat.keys.2.key k j x e hk hi' h;subst this;rw[hk]at hi';cases hi';exact .inr rfl
    exact .inl h
   match q,hq with
   |0,hq=>simp at hq;subst hq;exact .val _
   |1,hq=>simp at hq;subst hq;exact Z3l _
   |2,hq=>simp at hq;subst hq;exact h5.mono hsame (fun _ _ h=>h)
   |q+3,hq=>simp at hq
theorem Zv7{x:Operand}{kk:KK}{look:Value->Option PV}{k:Value}{seen:List Value}{l:Nat}{p:PV}(ho:o.op = .entry x)(hx:ev x = .ref l)(hob:ob l=some (.miter kk look (k::seen)))(hp:look k=some p) :
  Step P o ev ob [] (.pv (.tup [ofConst k,p])):=by
 have hxm:x∈o.op.operands:=by simp[ho,Op.operands]
 refine .of_pure (fun l hl=>by simp[refs]at hl) fun St M0 σ w ρ hin ha hobj=>?_
 obtain⟨loc,hl,hor⟩:=hobj x hxm l (by simp[hx,refs]) _ hob;have hv:=Z1w (hx▸ha x hxm) hl;cases hor with
 |miter _ _ _ r m es clock sb hr hpm hm hM hs hlast=>
  obtain⟨m',es',clock',e1,hm',_,hat⟩:=pr_map hpm;cases e1;rw[hm]at hm';cases hm';obtain⟨i,e,hi,hk,hback⟩:=hlast k seen rfl;have hsb:sb=sb.pop.push e.born:=by
   have hne:sb.size≠0:=fun h=>by
    have:sb=#[]:=Array.eq_empty_of_size_eq_zero h;subst this;simp at hback
   rw[Array.back?_eq_getElem?]at hback;have hlt:sb.size-1<sb.size:=by omega
   rw[Array.getElem?_eq_getElem hlt]at hback;have hb:=qN hback;rw[<-hb];apply Array.ext
   ·simp;omega
   ·intro j h1 h2;rw[Array.getElem_push];split
    ·simp
    ·have:j=sb.size-1:=by simp at *;omega
     subst this;rfl
  rw[hsb]at hr;have hnd:(es.toList.map (·.born)).Nodup:=by
   rw[List.nodup_iff_pairwise_ne,List.pairwise_map,List.pairwise_iff_getElem];intro a b ha hb hab hne;have:=hat.keys.2.inj a b es.toList[a] es.toList[b] (by simp) (by simp) hne;omega
  have hrun:=run_entry_at (P:=P) w r m clock sb.pop es clock e hr hm (Array.mem_toList_iff.2 (Array.mem_of_getElem? hi)) hnd;have hkey:=hat.keys.1 i e hi;rw[hk]at hkey;obtain⟨j,e',h3,h4,h5,_⟩:=hat.som k p hkey hp;have hij:=hat.keys.2.key j i e' e h3 hi (by rw[h4,hk]);subst hij;rw[hi]at h3;cases h3;refine⟨.tuple #[e.key,e.val],by simp only[execOp,ho,hv,Sem.run_bind,hrun];simp,.pv _ _ (.tup _ _ rfl fun q y hq=>?_)⟩
  match q,hq with
  |0,hq=>simp at hq;subst hq;simp only[hk];exact Z3l _
  |1,hq=>simp at hq;subst hq;exact h5
  |q+2,hq=>simp at hq
theorem Z6i{w:World}{St M:Nat->Prop}{σ:Sig}{l size i n:Nat}{v:Value}(h:AR P w St M σ (.part l size i n) v){loc:Loc}(hl:σ l=some loc):∃a c,v = .slice a n c∧n<=c∧c<=maxLen∧(0<n->∃b,loc.blk=some b∧a=some ⟨b,i*size,none⟩):=by
 cases h with|part _ _ _ _ _ h=>exact h _ hl
theorem Zo4{St M0:Nat->Prop}{σ:Sig}{w:World}{l size n:Nat}{f:Nat->List PV}(h:At P w St M0 σ l (.row size n f)):∃loc a cap,σ l=some loc∧loc.ref = .slice a n cap∧n<=cap∧cap<=maxLen∧(0<cap->∃b,loc.blk=some b∧a=some ⟨b,0,none⟩):=by
 obtain⟨loc,hl,ho⟩:=h;cases ho with
 |row0 size f a=>exact⟨_,a,0,hl,rfl,qL _,qe _,fun h=>absurd h (by omega)⟩
 |row size n f b cap vs t hb hn hmax hsz hs hp h1=>exact⟨_,_,cap,hl,rfl,hn,hmax,fun _=>⟨b,rfl,rfl⟩⟩
theorem Zwf{t:TypeId}{x i:Operand}{l size n:Nat}{f:Nat->List PV}{k:IntKind}{h:Int}(hT:T.ok P)(ho:o.op = .slice t x (some i) none none)(hx:ev x = .own l)(hob:ob l=some (.row size n f))(hi:ev i = .pv (.val (.int k h)))(hs:SliceOf T t size)(h0:0<=h)(h1:h<=n) :
  Step P o ev ob [] (.part l size h.toNat (n-h.toNat)):=by
 have hxm:x∈o.op.operands:=by simp[ho,Op.operands]
 have him:i∈o.op.operands:=by simp[ho,Op.operands]
 refine .of_pure (fun k hk=>⟨x,hxm,by simpa[hx,refs]using hk⟩) fun St M0 σ w ρ hin ha hobj=>?_
 have hq:=pr_val (arg_pv (hi▸ha i him));obtain⟨loc,a,cap,hl,href,hcap,hmax,hb⟩:=Zo4 (hobj x hxm l (by simp[hx,refs]) _ hob);have hv:=Z0l (hx▸ha x hxm) hl;rw[href]at hv;obtain⟨ty,e,ety,h2,h3,h4,h5⟩:=hs;obtain⟨_,hu,_⟩:=hT _ _ h2;obtain⟨hie,_,_⟩:=hT _ _ h4;rw[h3]at hu;have hsz:(sizeOf e).run P w = .ok ety.info.size w:=by simp[sizeOf,Z0o hie]
 refine⟨.slice (if cap=h.toNat then a else a.map (·.add (h.toNat*size))) (n-h.toNat) (cap-h.toNat),?_,.part _ _ _ _ _ fun loc' hl'=>⟨_,_,rfl,by omega,by omega,fun hp=>?_⟩⟩
 ·simp[execOp,ho,hv,hq,Instr.sliceAt,Instr.slice,Instr.sliceBounds,Instr.sliceBound,asIntOf,run_underlying hu,h0,h1,hsz,h5]
 ·rw[hl]at hl';cases hl';obtain⟨b,hb1,rfl⟩:=hb (by omega);refine⟨b,hb1,?_⟩;rw[qJ (by omega)];simp[Z2b]
theorem Zwh{t:TypeId}{x i:Operand}{size n:Nat}{f:Nat->List PV}{k:IntKind}{h:Int}(hT:T.ok P)(ho:o.op = .slice t x (some i) none none)(hx:ev x = .pv (.ro size n f))(hi:ev i = .pv (.val (.int k h)))(hs:SliceOf T t size)(h0:0<=h)(h1:h<=n) :
  Step P o ev ob [] (.pv (.ro size (n-h.toNat) fun k=>f (h.toNat+k))):=by
 have hxm:x∈o.op.operands:=by simp[ho,Op.operands]
 have him:i∈o.op.operands:=by simp[ho,Op.operands]
 refine .of_pure (fun l hl=>by simp[refs]at hl) fun St M0 σ w ρ hin ha hobj=>?_
 have hA:=arg_pv (hx▸ha x hxm);have hq:=pr_val (arg_pv (hi▸ha i him));obtain⟨ty,e,ety,h2,h3,h4,h5⟩:=hs;obtain⟨_,hu,_⟩:=hT _ _ h2;obtain⟨hie,_,_⟩:=hT _ _ h4;rw[h3]at hu;have hsz:(sizeOf e).run P w = .ok ety.info.size w:=by simp[sizeOf,Z0o hie]
 cases hv:ρ x with
 |slice a len cap=>
  rw[hv]at hA;cases hA with
  |ro _ _ _ _ _ u hcap hmax hzn hsf hmem hp=>
   refine⟨.slice (if cap=h.toNat then a else a.map (·.add (h.toNat*size))) (n-h.toNat) (cap-h.toNat),?_,.pv _ _ ?_⟩
   ·simp[execOp,ho,hv,hq,Instr.sliceAt,Instr.slice,Instr.sliceBounds,Instr.sliceBound,asIntOf,run_underlying hu,h0,h1,hsz,h5]
   ·refine .ro size (n-h.toNat) _ _ (cap-h.toNat) (fun i j=>u (h.toNat+i) j) (by omega) (by omega) (fun hz=>?_) (fun i hi'=>hsf _ (by omega)) (fun hpos=>?_) (fun i hi'=>hp _ (by omega))
    ·have:a=none:=by
      split at hz
      ·exact hz
      ·simpa using hz
     have:=hzn this;omega
    ·obtain⟨ad,e1,hb,hM,hc⟩:=hmem (by omega);refine⟨ad.add (h.toNat*size),?_,?_,?_,fun i hi' j hj=>?_⟩
     ·rw[qJ (by omega),e1];rfl
     ·rw[Z1g];exact hb
     ·rw[Z1g];exact hM
     ·have:=hc (h.toNat+i) (by omega) j hj;rw[Z57,<-Nat.add_assoc,<-Nat.add_mul];exact this
 |_=>rw[hv]at hA;cases hA
theorem Zwg{t:TypeId}{x i:Operand}{l d size n:Nat}{f:Nat->List PV}{k:IntKind}{h:Int}(hT:T.ok P)(ho:o.op = .slice t x none (some i) none)(hx:ev x = .own l)(hob:ob l=some (.row size n f))(hi:ev i = .pv (.val (.int k h)))(hs:SliceOf T t size)(h0:0<=h)(h1:h<=n)(hd:ob d=none) :
  Step P o ev ob [(d,.row size h.toNat f),(l,.gone)] (.own d):=by
 have hxm:x∈o.op.operands:=by simp[ho,Op.operands]
 have him:i∈o.op.operands:=by simp[ho,Op.operands]
 have hdl:d≠l:=fun e=>by rw[e,hob]at hd;cases hd
 have hgo:∀k,getO [(d,AObj.row size h.toNat f),(l,AObj.gone)] k=if d=k then some (AObj.row size h.toNat f)else if l=k then some .gone else none:=fun k=>by
  rw[Z2h];split
  ·rfl
  ·exact Z04
 refine⟨?_,fun k hk=>.inr (by simp[refs]at hk;subst hk;rw[hgo];simp),fun i obj e k hk=>?_,fun k obj e ⟨y,hy,hk⟩=>?_⟩
 ·intro St M0 σ w ρ hin ha hobj hf;have hq:=pr_val (arg_pv (hi▸ha i him));obtain⟨loc,hl,hor⟩:=hobj x hxm l (by simp[hx,refs]) _ hob;have hfr:σ d=none:=by
   rcases hf d (by rw[hgo];simp)with⟨y,hy,hl'⟩|⟨h,_⟩
   ·have:y=x∨y=i:=by simpa[ho,Op.operands]using hy
    rcases this with rfl|rfl
    ·rw[hx]at hl';simp[refs]at hl';exact absurd hl' hdl
    ·rw[hi]at hl';simp[refs]at hl'
   ·exact h
  have hv:=Z0l (hx▸ha x hxm) hl;obtain⟨ty,e,ety,h2,h3,h4,h5⟩:=hs;obtain⟨_,hu,_⟩:=hT _ _ h2;obtain⟨hie,_,_⟩:=hT _ _ h4;rw[h3]at hu;have hsz:(sizeOf e).run P w = .ok ety.info.size w:=by simp[sizeOf,Z0o hie]
  have hadd:∀(a:Option Addr) (cap:Nat),(if cap=0 then a else Option.map (fun x=>x.add 0) a)=a:=fun a cap=>by cases a<;>simp[add_zero]
  have hMM:∀(lc:Loc),lc.blk=loc.blk->∀b,b<w.heap.size->Mof M0 (upd1 (drop1 σ l) d lc) b->Mof M0 σ b:=by
   intro lc hlc b _ hb;rcases hb with hb|hb
   ·exact .inl hb
   ·rcases Z16 hb with h|h
    ·exact .inr (Z2l h)
    ·exact .inr ⟨l,loc,hl,by rw[<-hlc];exact h⟩
  unfold OpRuns;cases hor with
  |row0 _ _ a=>
   have e0:h=0:=by omega
   subst e0;rw[show(execOp ρ o).run P w = .ok (.value (.slice a 0 0)) w from by
    simp[execOp,ho,hv,hq,Instr.sliceAt,Instr.slice,Instr.sliceBounds,Instr.sliceBound,asIntOf,run_underlying hu,hsz]]
   exact⟨_,Post.moved (loc:=⟨.slice a 0 0,none⟩) hin hfr hl (fun b hb=>by cases hb) ((FExt.refl (fun _=>False) w).mono (fun _ _ h=>h.elim)) (by simp) (.row0 _ _ a)⟩
  |row _ _ _ b cap vs t' hb hn hmax hsz' hs' hh hone=>
   have hle:h<=cap:=by omega
   rw[show(execOp ρ o).run P w = .ok (.value (.slice (some ⟨b,0,none⟩) h.toNat cap)) w from by
    simp[execOp,ho,hv,hq,Instr.sliceAt,Instr.slice,Instr.sliceBounds,Instr.sliceBound,asIntOf,run_underlying hu,h0,hle,hsz,hadd,add_zero]]
   exact⟨_,Post.moved (loc:=⟨.slice (some ⟨b,0,none⟩) h.toNat cap,some b⟩) hin hfr hl (fun b hb=>.inl hb) ((FExt.refl (fun _=>False) w).mono (fun _ _ h=>h.elim)) (by simp)
    (.row _ _ _ b cap vs t' hb (by omega) hmax hsz' (fun i hi'=>hs' i (by omega)) (fun i hi' j p e=>(hh i (by omega) j p e).mono (Same.refl _ w) (hMM _ rfl)) hone)⟩
 ·rw[hgo]at e
  split at e
  ·cases e;simp[refsO]at hk
  ·split at e
   ·cases e;simp[refsO]at hk
   ·cases e
 ·have:y=x∨y=i:=by simpa[ho,Op.operands]using hy
  rcases this with rfl|rfl
  ·rw[hx]at hk;simp[refs]at hk;subst hk;rw[hgo,qJ hdl,qK rfl]at e;cases e;exact .inr rfl
  ·rw[hi]at hk;simp[refs]at hk
theorem Zvs{t:TypeId}{x:Operand}{l size i n:Nat}(hT:T.ok P)(ho:o.op = .call { callee:=.builtin .len,args:=#[x],argTypes:=#[t] })(hx:ev x = .part l size i n)(hl:liveO (ob l)=true)(hs:SliceOf T t size):Step P o ev ob [] (.pv (.val (.int .i64 n))):=by
 have hxm:x∈o.op.operands:=by simp[ho,Op.operands,Call.operands]
 refine .of_pure (fun l hl=>by simp[refs]at hl) fun St M0 σ w ρ hi ha hobj=>?_
 obtain⟨obj,h1,h2⟩:=Z3k hl;obtain⟨loc,h3,_⟩:=Z0q (hobj x hxm l (by simp[hx,refs]) _ h1) h2;obtain⟨a,c,hv,_⟩:=Z6i (hx▸ha x hxm) h3;obtain⟨ty,e,ety,h2,h3,h4,h5⟩:=hs;obtain⟨_,hu,_⟩:=hT _ _ h2;rw[h3]at hu;exact⟨.int .i64 n,by simp[execOp,ho,resolve,invoke,builtin,Builtin.len_,hv,run_underlying hu,goInt],.pv _ _ (.val _)⟩
theorem Zvj{t:TypeId}{x i:Operand}{l size a n:Nat}{k:IntKind}{ix:Int}(hT:T.ok P)(ho:o.op = .indexAddr t x i)(hx:ev x = .part l size a n)(hl:liveO (ob l)=true)(hi:ev i = .pv (.val (.int k ix)))
  (hs:SliceOf T t size) (h0:0<=ix) (h1:ix<n):Step P o ev ob [] (.eptr l size (a+ix.toNat) 0):=by
 have hxm:x∈o.op.operands:=by simp[ho,Op.operands]
 have him:i∈o.op.operands:=by simp[ho,Op.operands]
 refine .of_pure (fun k hk=>⟨x,hxm,by simpa[hx,refs]using hk⟩) fun St M0 σ w ρ hin ha hobj=>?_
 have hq:=pr_val (arg_pv (hi▸ha i him));obtain⟨obj,h2,h3⟩:=Z3k hl;obtain⟨loc,h4,_⟩:=Z0q (hobj x hxm l (by simp[hx,refs]) _ h2) h3;obtain⟨ad,c,hv,_,_,hb⟩:=Z6i (hx▸ha x hxm) h4;obtain⟨b,hb1,rfl⟩:=hb (by omega);have hadd:(⟨b,a*size,none⟩:Addr).add (ix.toNat*size)=⟨b,(a+ix.toNat)*size,none⟩:=by
  rw[Nat.add_mul];unfold Addr.add;split<;>simp_all
 refine⟨.pointer (some ⟨b,(a+ix.toNat)*size,none⟩),by simp[execOp,ho,hv,hq,Zaz hT hs h0 h1,hadd],.eptr _ _ _ _ _ fun loc' hloc=>⟨b,?_,by simp⟩⟩;rw[h4]at hloc;cases hloc;exact hb1
def fillF(f:Nat->List PV)(a m:Nat)(zs:List PV):Nat->List PV:=fun k=>match Nat.ble a k with
 |true=>match Nat.blt k (a+m)with
  |true=>zs
  |false=>f k
 |false=>f k
theorem Z6u{f:Nat->List PV}{a m k:Nat}{zs:List PV}:fillF f a m zs k=if a<=k∧k<a+m then zs else f k:=by
 unfold fillF;split
 ·rename_i h;have h:=qi h;split
  ·rename_i h2;have h2:k<a+m:=qi h2;rw[qK ⟨h,h2⟩]
  rename_i h2;have h2:¬k<a+m:=fun hh=>by have:Nat.blt k (a+m)=true:=Nat.ble_eq_true_of_le hh;rw[this]at h2;cases h2
  rw[qJ (fun hh=>h2 hh.2)]
 rename_i h;have h2:¬a<=k:=fun hh=>by rw[Nat.ble_eq_true_of_le hh]at h;cases h
 rw[qJ (fun hh=>h2 hh.1)]
theorem Zxd {z : Array Value} {n i : Nat} (h : i < n * z.size) : ((Builtin.zeroCells z n).getD i undef) = z.getD (i % z.size) undef := by
  have hz : 0 < z.size := by rcases Nat.eq_zero_or_pos z.size with e | e; · rw [e] at h; simp at h
                             · exact e
  have hlt : i % z.size < z.size := Nat.mod_lt _ hz
  unfold Builtin.zeroCells
  simp only [Array.getD, Array.size_map, Array.size_range, h, dif_pos, Array.getInternal_eq_getElem, Array.getElem_map, Array.getElem_range]
  rw [getElem!_pos z (i % z.size) hlt]
  simp [hlt]
theorem Zxc(hT:T.ok P){t e:TypeId}{i:TypeInfo}{z:Value}{zs:List PV}(hE:ElemOf P t e i z)(hz:zcellsOf T t=some zs):zs=z.cells.toList.map .val:=by
 unfold zcellsOf at hz
 split at hz
 ·rename_i ty hty;obtain⟨_,hu,_⟩:=hT _ _ hty
  split at hz
  ·rename_i e' he';rw[he',hE.ht]at hu;cases hu
   split at hz
   ·rename_i ety hety;obtain⟨hie,_,_⟩:=hT _ _ hety;rw[hE.hi]at hie;cases hie
    split at hz
    ·rename_i z' hz';rw[hE.hz]at hz';cases hz';cases hz;rfl
    cases hz
   cases hz
  cases hz
 cases hz
theorem Post.redo{St M0:Nat->Prop}{σ:Sig}{w:World}{l:Nat}{o':AObj}{v:AV}{v':Value}(hi:Inv St M0 σ w)(ho:At P w St M0 σ l o')(hv:AR P w St (Mof M0 σ) σ v v'):Post P St M0 σ w [(l,o')] v σ v' w:=by
 refine⟨hv,fun k x e=>?_,fun _ _=>rfl,fun _ _ _ e e'=>qN (e'.symm.trans e),hi.sep,fun _ h=>.inl h,FExt.refl _ w⟩;rw[Z04]at e
 split at e
 ·rename_i h;cases e;subst h;exact ho
 cases e
theorem Zv4{t:TypeId}{x:Operand}{l size a m n:Nat}{f:Nat->List PV}{zs:List PV}(hT:T.ok P)(ho:o.op = .call { callee:=.builtin .clear,args:=#[x],argTypes:=#[t] })(hx:ev x = .part l size a m)(hob:ob l=some (.row size n f))
  (he:elemOf T t size=true) (hz:zcellsOf T t=some zs) (hfit:a+m<=n):Step P o ev ob [(l,.row size n (fillF f a m zs))] (.pv (.tup [])):=by
 have hxm:x∈o.op.operands:=by simp[ho,Op.operands,Call.operands]
 refine⟨?_,fun k hk=>by simp[refs]at hk,fun i obj e k hk=>by rw[Z04]at e;split at e<;>cases e;simp[refsO]at hk,fun k obj e _=>by
  rw[Z04]at e
  split at e
  ·rename_i h;subst h;exact .inl (by rw[hob];rfl)
  ·cases e⟩
 intro St M0 σ w ρ hin ha hobj _;obtain⟨e,i,z,hE,hsize⟩:=Z6r hT he;have hzs:=Zxc hT hE hz;have hAt:=hobj x hxm l (by simp[hx,refs]) _ hob;obtain⟨loc,hloc,hor⟩:=hAt;obtain⟨ad,c,hv,_,_,hb⟩:=Z6i (hx▸ha x hxm) hloc;unfold OpRuns
 by_cases hm:m=0
 ·subst hm;rw[show(execOp ρ o).run P w = .ok (.value (.tuple #[])) w from by cases ad<;>simp[execOp,ho,resolve,invoke,builtin,Builtin.clear_,hv,run_underlying hE.ht]];refine⟨σ,Post.redo hin ⟨loc,hloc,?_⟩ (.pv _ _ (.tup _ _ rfl fun i p e=>by simp at e))⟩;have:fillF f a 0 zs=f:=funext fun k=>by rw[Z6u,qJ (by omega)]
  rw[this];exact hor
 ·obtain⟨b,hb1,rfl⟩:=hb (by omega);obtain⟨b',cap,vs,t',hl,hb',hcap,hmax,hs,hf,hq,hone⟩:=at_row ⟨loc,hloc,hor⟩ (by omega:0<n);rw[hloc]at hl;cases hl;cases hb1;have hzl:(Builtin.zeroCells z.cells m).toList.length=m*size:=by simp[Builtin.zeroCells,hE.zs,hsize]
  have hmul:a*size+m*size<=cap*size:=by rw[<-Nat.add_mul];exact qu _ (by omega)
  have hfit':a*size+(Builtin.zeroCells z.cells m).toList.length<=vs.size:=by rw[hzl,hs];exact hmul
  have hst:=run_storeCells_at (P:=P) b (a*size) t' (Builtin.zeroCells z.cells m).toList 0 vs w hb' (by simpa using hfit') (fun u hu=>by
   obtain⟨k,hk,rfl⟩:=List.mem_iff_getElem.1 hu;have hk':k<m*z.cells.size:=by rw[hzl]at hk;rw[hE.zs,hsize];exact hk
   have:=Zbj hk' hE.z1;simpa[Array.getD,show k<(Builtin.zeroCells z.cells m).size from by simpa using hk]using this)
  simp only[Nat.add_zero]at hst;have hzv:(zeroValue e).run P w = .ok z w:=by simp[zeroValue,Z0o hE.hi,hE.hz]
  rw[show(execOp ρ o).run P w = .ok (.value (.tuple #[])) (w.setRow b (cut vs (a*size) (Builtin.zeroCells z.cells m).toList))from by
   simp only[execOp,ho,resolve,invoke,builtin];cases m with
   |zero=>exact absurd rfl hm
   |succ m=>simp[Builtin.clear_,hv,run_underlying hE.ht,hzv,hst,cut]]
  have hx':=Z5e w b (cut vs (a*size) (Builtin.zeroCells z.cells m).toList);have hsame:=Z31 (M0:=M0) hloc rfl hx';have hsz:size=z.cells.size:=by rw[hE.zs,hsize]
  have hpos:0<size:=by rw[<-hsize];exact hE.pos
  refine⟨σ,Post.upd hin hloc rfl hx' (by simp) (.row _ _ _ b cap _ t' (setRow_heap w b vs _ t' _ hb') hcap hmax (by rw[Z14 hfit',hs]) (fun k hk=>?_) (fun k hk j p e=>?_) (fun k hk=>?_)) (.pv _ _ (.tup _ _ rfl fun i p e=>by simp at e))⟩
  ·rw[Z6u];split
   ·rw[hzs];simp[hsz]
   ·exact hf k hk
  ·rw[Z6u]at e;rw[Z1c hfit' _,hzl]
   split at e
   ·rename_i hc;have hj:j<size:=by have:=(qf.1 e).1;rw[hzs]at this;simpa[hsz]using this
    have h1:a*size<=k*size+j:=qF (qu _ hc.1) (Nat.le_add_right _ _);have h2:k*size+j<a*size+m*size:=by
     have:(k+1)*size<=(a+m)*size:=qu _ (by omega);rw[Nat.add_mul,Nat.add_mul]at this;omega
    rw[qK ⟨h1,h2⟩];have e1:k*size+j-a*size=(k-a)*size+j:=by rw[Nat.sub_mul];have:=qu size hc.1;omega
    have hlt:(k-a)*size+j<m*size:=idx_lt (by omega) hj;rw[e1];have hg:=Zxd (z:=z.cells) (n:=m) (i:=(k-a)*size+j) (by rw[<-hsz];exact hlt);have e2:((k-a)*size+j)%z.cells.size=j:=by rw[<-hsz,Nat.add_comm,Nat.add_mul_mod_self_right,Nat.mod_eq_of_lt hj]
    rw[e2]at hg;have hg2:(Builtin.zeroCells z.cells m).toList.getD ((k-a)*size+j) undef=z.cells.getD j undef:=by
     rw[<-hg];simp[qb,List.getD]
    rw[hg2];rw[hzs]at e;simp at e;obtain⟨u,hu,rfl⟩:=e;have:z.cells.getD j undef=u:=by simp[qb,hu]
    rw[this];exact .val u
   ·rename_i hc;have hj:j<size:=by rw[<-hf k hk];exact(qf.1 e).1
    rw[qJ]
    ·exact(hq k hk j p e).mono hsame (fun _ _ h=>h)
    ·rintro ⟨h1,h2⟩
     apply hc;constructor
     ·rcases Nat.lt_or_ge k a with h3|h3
      ·have:(k+1)*size<=a*size:=qu _ h3;rw[Nat.add_mul]at this;omega
      ·exact h3
     ·rcases Nat.lt_or_ge k (a+m)with h3|h3
      ·exact h3
      ·have:(a+m)*size<=k*size:=qu _ h3;rw[Nat.add_mul]at this;omega
  ·rw[Z14 hfit']at hk;rw[Z1c hfit' _]
   by_cases hc:a*size<=k∧k<a*size+(Builtin.zeroCells z.cells m).toList.length
   ·rw[qK hc];have:=Zbj (z:=z.cells) (n:=m) (i:=k-a*size) (by rw[<-hsz];rw[hzl]at hc;omega) hE.z1;simpa[qb,List.getD]using this
   ·rw[qJ hc];exact hone k hk
theorem Zv1{fo:Operand}{args:Array Operand}{ts:Array TypeId}{f:FuncId}{caps ys:List AV}{l d size n:Nat}{r:Nat->List PV}{o1:AObj}(ho:o.op = .call { callee:=.value fo,args:=args,argTypes:=ts })(hf:ev fo = .fn f caps)
  (hob:ob l=some o1) (hg1:liveO (some o1)=true) (hr1:refsO o1 = []) (hys:handL l (args.toList.map ev++caps)=some ys) (hl:l∈refs.refsL (args.toList.map ev++caps)) (hd:ob d=none)
  (hAC:AC P f ys [(0,o1)] (.own 1) [(1,.row size n r),(0,.gone)]):StepN P o ev ob [(d,.row size n r),(l,.gone)] (.own d):=by
 have hfm:fo∈o.op.operands:=by simp[ho,Op.operands,Call.operands]
 have ham:∀x∈args,x∈o.op.operands:=fun x hx=>by simp[ho,Op.operands,Call.operands,hx]
 have href:∃x∈o.op.operands,l∈refs (ev x):=by
  obtain⟨i,x,hx,hlx⟩:=Z4r hl;have hx:=List.mem_of_getElem? hx;simp only[qo,List.mem_map]at hx;rcases hx with⟨y,hy,rfl⟩|hx
  ·exact⟨y,ham y (by simpa using hy),hlx⟩
  obtain⟨i,hi⟩:=List.getElem?_of_mem hx;exact⟨fo,hfm,by rw[hf];simp only[refs];exact Z07 hi l hlx⟩
 have hne1:o1≠.gone:=fun h=>by subst h;simp[liveO]at hg1
 have hdl:d≠l:=fun e=>by rw[e,hob]at hd;cases hd
 have hgo:∀k,getO [(d,AObj.row size n r),(l,AObj.gone)] k=if d=k then some (AObj.row size n r)else if l=k then some .gone else none:=fun k=>by
  rw[Z2h];split
  ·rfl
  exact Z04
 refine⟨fun St M0 σ w ρ hi ha hobj hn hfree=>?_,fun k hk=>.inr (by simp[refs]at hk;subst hk;rw[hgo];simp),fun i obj e k hk=>?_,fun k obj e=>?_⟩
 ·obtain⟨hfn,hcall⟩:=hAC;have hfv:=ha fo hfm;rw[hf]at hfv;cases hfv':ρ fo with
  |func fn first vs=>_
  |_=>rw[hfv']at hfv;cases hfv
  rw[hfv']at hfv;cases hfv with
  |fn _ _ _ hlc hcap=>
   unfold OpRuns;rw[Z3o ho hfv' hfn];obtain⟨x0,hx0,hlx0⟩:=href;obtain⟨loc,hloc,hor⟩:=Z0q (hobj l (Z10 hx0 hlx0) o1 hob) hne1;have hfr:σ d=none:=hfree d (by rw[hgo];simp) hd;have hrel:∀(i:Nat) (x:AV),(args.toList.map ev++caps)[i]? = some x->AR P w St (Mof M0 σ) σ x ((args.map ρ++vs).getD i undef):=by
    intro i x hx;rw[qO]at hx
    split at hx
    ·rename_i hlt;have hlt':i<args.size:=by simpa using hlt
     have hxe:x=ev args[i]:=by
      simp[hlt']at hx;exact hx.symm
     have hm:args[i]∈o.op.operands:=ham _ (by simp);rw[Z0b (by simpa using hlt'),hxe];have:=ha _ hm;simpa[Array.getD,hlt']using this
    rename_i hge;rw[Z2g (by simp at hge ⊢;exact hge)];have:=hcap _ x hx;simpa using this
   obtain⟨hyl,hyg⟩:=Z9v hys;have hblt:∀b,loc.blk=some b->b<w.heap.size:=fun b hb=>hi.lt b ⟨l,loc,hloc,hb⟩
   have hsig:∀b,owned (sig1 σ l) b->loc.blk=some b:=fun b hb=>by
    obtain⟨lc,h1,h2⟩:=sig1_owned.1 hb;rw[hloc]at h1;cases h1;exact h2
   have hinv:Inv St (hidden M0 σ l) (sig1 σ l) w:=by
    refine⟨fun k k' lc lc' b e e' _ _=>?_,fun b h=>hblt b (hsig b h),fun b h=>⟨?_,fun h2=>h.2 (sig1_owned.1 h2)⟩,fun b h=>⟨(hi.st b h).1,fun h2=>(hi.st b h).2 ⟨l,loc,hloc,hsig b h2⟩⟩,hi.gl.mono (Same.refl _ w) (fun b _ hb=>Z5g hb)⟩
    ·unfold sig1 at e e'
     split at e
     ·split at e'
      ·rename_i h h';rw[h,h']
      cases e'
     cases e
    rcases h.1 with h1|h1
    ·exact(hi.m0 b h1).1
    exact hi.lt b h1
   refine(hcall St (hidden M0 σ l) (sig1 σ l) w (args.map ρ++vs) hinv (fun k hk=>?_) (fun k obj e=>?_) ?_ ?_).mono ?_
   ·rw[Z04]at hk
    split at hk
    ·cases hk
    rename_i h;simp[sig1,show ¬k=0 from fun x=>h x.symm]
   ·rw[Z04]at e
    split at e
    ·rename_i h;cases e;subst h;have hor':OR P w St (Mof (hidden M0 σ l) (sig1 σ l)) (sig1 σ l) o1 loc:=Z7f hor (fun b _ hb=>Z5g hb) hr1;have hs0:sig1 σ l 0=some loc:=by simp[sig1,hloc]
     cases o1<;>first|exact⟨loc,hs0,hor'⟩|exact absurd rfl hne1
    cases e
   ·have:(args.map ρ++vs).size=(args.toList.map ev++caps).length:=by simp[hlc]
    rw[this,hyl]
   ·intro i y hy;obtain⟨x,hx,hxy⟩:=hyg i y hy;exact Zer (hrel i x hx) hxy
   rintro e w' ⟨v,σ1,rfl,hp⟩
   refine⟨v,rfl,?_⟩;obtain⟨loc2,hloc2,hor2⟩:=Z0q (hp.obj 1 (.row size n r) (by simp[getO])) (by simp);have hv:=Z0l hp.val hloc2;subst hv;have hblk:∀b,loc2.blk=some b->loc.blk=some b∨w.heap.size<=b:=fun b hb=>by
    rcases hp.blk b ⟨1,loc2,hloc2,hb⟩with h|h
    ·exact .inl (hsig b h)
    exact .inr h
   have hMM:∀b,Mof M0 (upd1 (drop1 σ l) d loc2) b->Mof (hidden M0 σ l) σ1 b:=by
    rintro b (hb|hb)
    ·exact .inl ⟨.inl hb,fun⟨lc,h3,h4⟩=>(hi.m0 b hb).2 ⟨l,lc,h3,h4⟩⟩
    rcases Z16 hb with h|h
    ·obtain⟨k,lc,h1,h2⟩:=h;unfold drop1 at h1
     split at h1
     ·cases h1
     rename_i hk;exact .inl ⟨.inr ⟨k,lc,h1,h2⟩,fun⟨lc',h3,h4⟩=>hk (hi.sep k l lc lc' b h1 h3 h2 h4)⟩
    exact .inr ⟨1,loc2,hloc2,h⟩
   refine⟨_,Post.moved (loc:=loc2) hi hfr hloc hblk (hp.ext.mono fun b _ ⟨k,lc,_,h2,h3⟩=>?_) (by simp) (Z7f hor2 (fun b _ hb=>hMM b hb) rfl)⟩;unfold sig1 at h2
   split at h2
   ·rw[hloc]at h2;cases h2;exact h3
   cases h2
 ·rw[hgo]at e
  split at e
  ·cases e;simp[refsO]at hk
  split at e
  ·cases e;simp[refsO]at hk
  cases e
 rw[hgo]at e
 split at e
 ·rename_i h;subst h;exact⟨.inr hd,.inl hd⟩
 split at e
 ·rename_i h;subst h;cases e;obtain⟨x0,hx0,hlx0⟩:=href;exact⟨.inl (Z10 hx0 hlx0),.inr (.inr rfl)⟩
 cases e
def callMoveK(P:Program)(ev:Operand->AV)(ob:Nat->Option AObj)(args:List Operand)(g:FuncId)(caps:List AV)(id:Nat)(K:AV->Upd->Prop):Prop:=
 match lentRefs ev args caps with
 |l::_=>match ob l with
  |some o1=>chk (liveO (some o1)) (chk (refsO o1).isEmpty (chk (ob id).isNone (match handL l (args.map ev++caps)with
   |some ys=>∃(size n:Nat) (r:Nat->List PV),AC P g ys [(0,o1)] (.own 1) [(1,.row size n r),(0,.gone)]∧K (.own id) [(id,.row size n r),(l,.gone)]
   |none=>False)))
  |none=>False
 | []=>False
theorem Zoh{d:Nat}{fo:Operand}{args:Array Operand}{ts:Array TypeId}{g:FuncId}{caps:List AV}(ho:o.op = .call { callee:=.value fo,args:=args,argTypes:=ts })(hf:ev fo = .fn g caps)(h:callMoveK P ev ob args.toList g caps d K) :
  ∃v u,K v u∧StepN P o ev ob u v:=by
 unfold callMoveK at h
 split at h
 ·rename_i l r hl
  split at h
  ·rename_i o1 hob;obtain⟨h1,h⟩:=Z02 h;obtain⟨h2,h⟩:=Z02 h;obtain⟨h3,h⟩:=Z02 h
   split at h
   ·rename_i ys hys;obtain⟨size,n,rr,hAC,hK⟩:=h;exact⟨_,_,hK,Zv1 ho hf hob h1 (by simpa using h2) hys (by unfold lentRefs at hl;rw[hl];simp) (by simpa using h3) hAC⟩
   exact h.elim
  exact h.elim
 exact h.elim
def nthA:List AV->Nat->(AV->Prop)->Prop
 | [],_,_=>False
 |p::l,n,K=>match n with
  |0=>force p K
  |n+1=>nthA l n K
theorem Zac:∀ {cs:List AV} {n:Nat} {K:AV->Prop},nthA cs n K->∃p,cs[n]? = some p∧K p
 | [],_,_,h=>h.elim
 |p::_,0,_,h=>⟨p,by simp,by simpa[nthA,Z2x]using h⟩
 |_::l,n+1,_,h=>by simpa using Zac (cs:=l) h
def mparts(ob:Nat->Option AObj)(place:Nat->Option (Nat×Nat))(ev:Operand->AV):List (Nat×Operand)->List AV->(List AV->Prop)->Prop
 | [],cs,K=>K cs
 |(i,x)::r,cs,K=>match putCells ob (ev x)with
  |some qs=>match place i with
   |some (off,size)=>chk (Nat.beq qs.length size) (chk (Nat.ble (off+qs.length) cs.length) (forceA (splice cs off qs) fun cs=>mparts ob place ev r cs K))
   |none=>False
  |none=>False
structure CellsV (P:Program) (w:World) (St M:Nat->Prop) (σ:Sig) (vs:Array Value) (cs:List AV):Prop where
 sz:vs.size=cs.length
 ar:∀(i:Nat) (c:AV),cs[i]? = some c->AR P w St M σ c (vs.getD i undef)
 one:∀i,i<vs.size->(vs.getD i undef).oneCell'=true
theorem Zg6{place:Nat->Option (Nat×Nat)}:∀ {parts:List (Nat×Operand)} {cs:List AV} {K:List AV->Prop},mparts ob place ev parts cs K->∃ds,K ds∧(∀l∈refs.refsL ds,l∈refs.refsL cs∨∃x∈parts,l∈refs (ev x.2))∧
  ∀(w:World) (St M0:Nat->Prop) (σ:Sig) (ρ:Operand->Value) (vs:Array Value),CellsV P w St (Mof M0 σ) σ vs cs->(∀x∈parts,AR P w St (Mof M0 σ) σ (ev x.2) (ρ x.2))->(∀x∈parts,∀l∈refs (ev x.2),∀obj,ob l=some obj->At P w St M0 σ l obj)->
   ∃us,Instr.fill place vs (parts.map fun x=>(x.1,ρ x.2))=some us∧CellsV P w St (Mof M0 σ) σ us ds
 | [],cs,K,h=>⟨cs,h,fun l hl=>.inl hl,fun w St M0 σ ρ vs hc _ _=>⟨vs,rfl,hc⟩⟩
 |(i,x)::r,cs,K,h=>by
  unfold mparts at h
  split at h
  ·rename_i qs hq
   split at h
   ·rename_i off size hpl;obtain⟨h1,h⟩:=Z02 h;obtain⟨h2,h⟩:=Z02 h;rw[Z3e]at h;have h1:=qg h1;have h2:=qi h2;obtain⟨ds,hK,hr,hB⟩:=Zg6 h;refine⟨ds,hK,fun l hl=>?_,fun w St M0 σ ρ vs hc ha ho=>?_⟩
    ·rcases hr l hl with h3|⟨y,hy,h3⟩
     ·rcases Zi5 h2 h3 with h4|h4
      ·exact .inl h4
      exact .inr ⟨(i,x),by simp,Z7g hq l h4⟩
     exact .inr ⟨y,by simp[hy],h3⟩
    obtain⟨hcs,hcp,hc1⟩:=Zaj (v:=ρ x) hq (ha (i,x) (by simp)) (fun k hk obj e=>ho (i,x) (by simp) k hk obj e);have hfit':off+(ρ x).cells.toList.length<=vs.size:=by simp[hcs,hc.sz];exact h2
    have hcell:CellsV P w St (Mof M0 σ) σ (cut vs off (ρ x).cells.toList) (splice cs off qs):=by
     refine⟨by rw[Z14 hfit',hc.sz,Z29],fun j q e=>?_,fun j hj=>?_⟩
     ·rw[Z33 off cs _ j h2]at e;rw[Z1c hfit' j];have e1:(ρ x).cells.toList.length=qs.length:=by simp[hcs]
      rw[e1]
      split at e
      ·rename_i hin;rw[qK hin];have:=hcp _ q e;simpa[qb,List.getD]using this
      rename_i hin;rw[qJ hin];exact hc.ar j q e
     rw[Z14 hfit']at hj;rw[Z1c hfit' j]
     by_cases hin:off<=j∧j<off+(ρ x).cells.toList.length
     ·rw[qK hin];have:=hc1 (j-off) (by simp at hin;omega);simpa[qb,List.getD]using this
     rw[qJ hin];exact hc.one j hj
    obtain⟨us,hus,hcu⟩:=hB w St M0 σ ρ _ hcell (fun y hy=>ha y (by simp[hy])) (fun y hy=>ho y (by simp[hy]));refine⟨us,?_,hcu⟩;rw[List.map_cons,Ze3 hpl (by rw[hcs,h1]) (by rw[hcs,hc.sz];exact h2)];exact hus
   exact h.elim
  exact h.elim
theorem Zuz{t:TypeId}{parts:Array (Nat×Operand)}{ty:TY}{fs:Array Field}{zs:Array Value}{r:List (Nat×Nat)}(hT:T.ok P)(ho:o.op = .build t parts)(ht:T t=some ty)(hu:ty.und = .struct fs)(hz:ty.info.zero=some (.agg zs))(h1:zs.toList.all (·.oneCell')=true)
  (hr:placesOf T fs.toList=some r) {K:List AV->Prop} (hB:mparts ob (r.toArray[·]?) ev parts.toList (zs.toList.map fun v=>.pv (.val v)) K):∃ds,K ds∧StepN P o ev ob [] (.mix ds):=by
 have hmem:∀x∈parts.toList,x.2∈o.op.operands:=by
  intro x hx;rw[ho];unfold Op.operands;simp only[List.mem_toArray,List.mem_map];exact⟨x,hx,rfl⟩
 obtain⟨ds,hK,href,hB⟩:=Zg6 (P:=P) hB;have hz0:refs.refsL (zs.toList.map fun v=>AV.pv (.val v)) = []:=by
  induction zs.toList with
  |nil=>rfl
  |cons v l ih=>simp[refs.refsL,refs,ih]
 refine⟨ds,hK,fun St M0 σ w ρ hi ha hobj hn hf=>?_,fun k hk=>?_,fun i obj e=>by simp[getO]at e,fun k obj e=>by simp[getO]at e⟩
 ·obtain⟨hin,hun,_⟩:=hT _ _ ht;rw[hu]at hun;have hc0:CellsV P w St (Mof M0 σ) σ zs (zs.toList.map fun v=>AV.pv (.val v)):=by
   refine⟨by simp,fun i c e=>?_,fun i hi'=>?_⟩
   ·rw[qx]at e;cases hv:zs.toList[i]? with
    |none=>rw[hv]at e;cases e
    |some v=>
     rw[hv]at e;cases e;have:zs.getD i undef=v:=by
      rw[qb,<-Array.getElem?_toList,hv];rfl
     rw[this];exact .pv _ _ (.val v)
   ·have:=qz.1 h1 (zs[i]) (by simp);simpa[Array.getD,hi']using this
  obtain⟨us,hus,hcu⟩:=hB w St M0 σ ρ zs hc0 (fun x hx=>ha x.2 (hmem x hx)) (fun x hx l hl obj e=>hobj l (Z10 (hmem x hx) hl) obj e);have hb:P.built t (parts.map fun(i,x)=>(i,ρ x)).toList=some us:=by
   unfold Program.built;rw[hin,hun];simp only[hz,Zah hT hr,Array.toList_map];exact hus
  unfold OpRuns;rw[show(execOp ρ o).run P w = .ok (.value (.agg us)) w from by simp[execOp,ho,run_build w t _ us hb]];exact⟨σ,Post.still hi.sep (.mix _ _ hcu.sz hcu.ar hcu.one)⟩
 ·rcases href k (by simpa[refs]using hk)with h|⟨x,hx,h⟩
  ·rw[hz0]at h;simp at h
  ·exact .inl (Z10 (hmem x hx) h)
def boxy:AV->Bool
 | .ptr _ _=>true
 | .fn _ _=>true
 | .clo _ _ _ _=>true
 | .mix _=>true
 | .ref _=>true
 | .own l=>Nat.ble 700000 l&&Nat.blt l 800000
 |_=>false
def keepB:AV->Bool
 | .own l=>Nat.ble 700000 l&&Nat.blt l 800000
 |_=>false
def aopcN(P:Program)(T:Tab)(o:Oper)(id:Nat)(ev:Operand->AV)(ob:Nat->Option AObj)(K:AV->Upd->Prop):Prop:=
 match o.op with
 | .makeInterface xt x=>match ev x with
  | .pv p=>match T xt with
   |some ty=>chk (solidD ty.und) (K (.pv (.ifc xt p)) [])
   |none=>False
  |_=>False
 | .typeAssert x xt t true=>match ev x with
  | .pv (.ifc t' p)=>match T t with
   |some ty=>chk (solidD ty.und) (match Nat.beq t' t with
    |true=>K (.pv (.tup [p,.val (.bool true)])) []
    |false=>match ty.info.zero with
     |some z=>K (.pv (.tup [ofConst z,.val (.bool false)])) []
     |none=>False)
   |none=>False
  |_=>False
 | .load t x=>match ev x with
  | .ptr l off=>match ob l with
   |some (.box cs)=>match T t with
    |some ty=>match aggD ty.und with
     |true=>chk (Nat.ble (off+ty.info.size) cs.length) (forceA ((cs.drop off).take ty.info.size) fun qs=>match pvL qs with
      |some ps=>K (.pv (.agg ps)) []
      |none=>K (.mix qs) [])
     |false=>nthA cs off fun v=>K v []
    |none=>False
   |_=>aopc P T o id ev ob K
  |_=>aopc P T o id ev ob K
 | .store t x y=>match ev x with
  | .ptr l off=>match ob l with
   |some (.box cs)=>match T t with
    |some ty=>match putCells ob (ev y)with
     |some qs=>chk (Nat.beq qs.length ty.info.size) (chk (Nat.ble (off+qs.length) cs.length) (forceA (splice cs off qs) fun cs=>K .junk [(l,.box cs)]))
     |none=>False
    |none=>False
   |some (.pbox cs)=>match boxy (ev y)with
    |true=>match T t with
     |some ty=>match putCells ob (ev y)with
      |some qs=>chk (Nat.beq qs.length ty.info.size) (chk (Nat.ble (off+qs.length) (cs.map AV.pv).length) (forceA (splice (cs.map .pv) off qs) fun cs=>K .junk [(l,.box cs)]))
      |none=>False
     |none=>False
    |false=>aopc P T o id ev ob K
   |_=>aopc P T o id ev ob K
  |_=>aopc P T o id ev ob K
 | .box t x=>match boxy (ev x)with
  |true=>match putCells ob (ev x)with
   |some qs=>chk (ob id).isNone (forceA qs fun qs=>K (.ptr id 0) [(id,.box qs)])
   |none=>False
  |false=>aopc P T o id ev ob K
 | .build t parts=>match parts.toList.any fun x=>keepB (ev x.2)with
  |true=>match T t with
   |some ty=>match ty.und with
    | .struct fs=>match ty.info.zero with
     |some (.agg zs)=>chk (zs.toList.all (·.oneCell')) (match placesOf T fs.toList with
      |some r=>mparts ob (r.toArray[·]?) ev parts.toList (zs.toList.map fun v=>.pv (.val v)) fun ds=>K (.mix ds) []
      |none=>False)
     |_=>False
    |_=>False
   |none=>False
  |false=>aopc P T o id ev ob K
 | .field t x f=>match ev x with
  | .mix cs=>match T t with
   |some ty=>match ty.und with
    | .struct fs=>match fs[f]? with
     |some fd=>match T fd.type with
      |some fty=>match aggD fty.und with
       |true=>chk (Nat.ble (fd.offset+fty.info.size) cs.length) (forceA ((cs.drop fd.offset).take fty.info.size) fun qs=>match pvL qs with
        |some ps=>K (.pv (.agg ps)) []
        |none=>K (.mix qs) [])
       |false=>nthA cs fd.offset fun v=>K v []
      |none=>False
     |none=>False
    |_=>False
   |none=>False
  |_=>aopc P T o id ev ob K
 | .range t x=>match ev x with
  | .pv (.map kk look)=>chk (isMapT T t) (chk (ob id).isNone (K (.ref id) [(id,.miter kk look [])]))
  | .ref l=>match ob l with
   |some (.map kk look)=>chk (isMapT T t) (chk (ob id).isNone (frzK ob [.ref l] K fun K=>match frzV ob (.ref l)with
    | .pv (.map kk look)=>K (.ref id) [(id,.miter kk look [])]
    |_=>False))
   |_=>False
  |_=>aopc P T o id ev ob K
 | .entry x=>match ev x with
  | .ref l=>match ob l with
   |some (.miter _ look (k::_))=>∃p,look k=some p∧K (.pv (.tup [ofConst k,p])) []
   |_=>False
  |_=>False
 | .slice t x (some i) none none=>match ev x with
  | .own l=>match ob l with
   |some (.row size n _)=>match ev i with
    | .pv (.val (.int _ h))=>chk (sliceOf T t size) ((0<=h∧h<=n)∧K (.part l size h.toNat (n-h.toNat)) [])
    |_=>False
   |_=>False
  | .pv (.ro size n f)=>match ev i with
   | .pv (.val (.int _ h))=>chk (sliceOf T t size) ((0<=h∧h<=n)∧K (.pv (.ro size (n-h.toNat) fun k=>f (h.toNat+k))) [])
   |_=>False
  |_=>False
 | .slice t x none (some i) none=>match ev x with
  | .own l=>match ob l with
   |some (.row size n f)=>match ev i with
    | .pv (.val (.int _ h))=>chk (sliceOf T t size) (chk (ob id).isNone ((0<=h∧h<=n)∧K (.own id) [(id,.row size h.toNat f),(l,.gone)]))
    |_=>False
   |_=>False
  |_=>aopc P T o id ev ob K
 | .indexAddr t x i=>match ev x with
  | .part l size a n=>match ev i with
   | .pv (.val (.int _ ix))=>chk (liveO (ob l)) (chk (sliceOf T t size) ((0<=ix∧ix<n)∧K (.eptr l size (a+ix.toNat) 0) []))
   |_=>False
  |_=>aopc P T o id ev ob K
 | .call c=>match c.callee with
  | .value fo=>match ev fo with
   | .fn g caps=>callK P ev ob c.args.toList g caps K∨callOwnK P ev ob c.args.toList g caps id K∨callObjK P ev ob c.args.toList g caps K∨callMoveK P ev ob c.args.toList g caps id K∨callGenK P ev ob c.args.toList g caps K
   |_=>aopc P T o id ev ob K
  | .builtin b=>match b,c.args,c.argTypes with
   | .len,⟨[x]⟩,⟨[t]⟩=>match ev x with
    | .part l size _ n=>chk (liveO (ob l)) (chk (sliceOf T t size) (K (.pv (.val (.int .i64 n))) []))
    |_=>aopc P T o id ev ob K
   | .clear,⟨[x]⟩,⟨[t]⟩=>match ev x with
    | .part l size a m=>match ob l with
     |some (.row s n f)=>chk (Nat.beq s size) (chk (elemOf T t size) (match zcellsOf T t with
      |some zs=>a+m<=n∧K (.pv (.tup [])) [(l,.row s n (fillF f a m zs))]
      |none=>False))
     |_=>False
    |_=>False
   | .delete,⟨[x,y]⟩,⟨[t,_]⟩=>match mapOf T t with
    |some (kk0,_)=>match ev x with
     | .ref i=>match ob i with
      |some (.map kk look)=>chk (kkEq kk0 kk) (keyK kk0 (ev y) fun k=>K (.pv (.tup [])) [(i,.map kk (lookDel look k))])
      |_=>False
     |_=>False
    |none=>False
   |_,_,_=>aopc P T o id ev ob K
  | .invoke recv name=>match ev recv with
   | .pv (.ifc t p)=>match T t with
    |some ty=>chk (solidD ty.und) (match pvL (c.args.toList.map ev)with
     |some ps=>∃f res,AC P f ((p::ps).map .pv) [] (.pv res) []∧mfun ty.info.methods name=some f∧K (.pv res) []
     |none=>callGenV P ob (.pv p::c.args.toList.map ev) (mfun ty.info.methods name) K)
    |none=>False
   |_=>False
 |_=>aopc P T o id ev ob K
theorem Z8w(hT:T.ok P){d:Nat}(h:aopcN P T o d ev ob K):∃v u,K v u∧StepN P o ev ob u v:=by
 have old:aopc P T o d ev ob K->∃v u,K v u∧StepN P o ev ob u v:=fun h=>by
  obtain⟨v,u,h1,h2,h3⟩:=Zo0 hT h;exact⟨v,u,h1,h2.toN h3⟩
 unfold aopcN at h
 split at h
 ·rename_i xt x ho
  split at h
  ·rename_i p hx
   split at h
   ·rename_i ty ht;obtain⟨h0,h⟩:=Z02 h;exact⟨_,_,h,(Zw2 hT ho ht h0 hx).toN Fresh.nil⟩
   exact h.elim
  exact h.elim
 ·rename_i x xt t ho
  split at h
  ·rename_i t' p hx
   split at h
   ·rename_i ty ht;obtain⟨h0,k⟩:=Z02 h;clear h
    split at k
    ·rename_i he;have he:=qg he;subst he;exact⟨_,_,k,(Zuu hT ho ht h0 hx).toN Fresh.nil⟩
    rename_i he
    split at k
    ·rename_i z hz;exact⟨_,_,k,(Zut hT ho ht h0 hx (Nat.ne_of_beq_eq_false he) hz).toN Fresh.nil⟩
    exact k.elim
   exact h.elim
  exact h.elim
 ·rename_i t x ho
  split at h
  ·rename_i l off hx
   split at h
   ·rename_i cs hob
    split at h
    ·rename_i ty ht
     split at h
     ·rename_i hd;obtain⟨h1,h⟩:=Z02 h;rw[Z3e]at h;have hs:=Zvw hT ho ht hx hob hd (qi h1)
      split at h
      ·rename_i ps hps;exact⟨_,_,h,hs.mixpv hps⟩
      exact⟨_,_,h,hs⟩
     rename_i hd;obtain⟨p,h1,h2⟩:=Zac h;exact⟨_,_,h2,Zvv hT ho ht hx hob hd h1⟩
    exact h.elim
   exact old h
  exact old h
 ·rename_i t x y ho
  split at h
  ·rename_i l off hx
   split at h
   ·rename_i cs hob
    split at h
    ·rename_i ty ht
     split at h
     ·rename_i qs hq;obtain⟨h1,h⟩:=Z02 h;obtain⟨h2,h⟩:=Z02 h;rw[Z3e]at h;exact⟨_,_,h,Zii (bo:=.box cs) rfl hT ho ht hx hob hq (qg h1) (qi h2)⟩
     exact h.elim
    exact h.elim
   ·rename_i cs hob
    split at h
    ·split at h
     ·rename_i ty ht
      split at h
      ·rename_i qs hq;obtain⟨h1,h⟩:=Z02 h;obtain⟨h2,h⟩:=Z02 h;rw[Z3e]at h;exact⟨_,_,h,Zii (bo:=.pbox cs) rfl hT ho ht hx hob hq (qg h1) (qi h2)⟩
      exact h.elim
     exact h.elim
    exact old h
   exact old h
  exact old h
 ·rename_i t x ho
  split at h
  ·split at h
   ·rename_i qs hq;obtain⟨h1,h⟩:=Z02 h;rw[Z3e]at h;exact⟨_,_,h,Zuw ho hq (by simpa using h1)⟩
   exact h.elim
  exact old h
 ·rename_i t parts ho
  split at h
  ·split at h
   ·rename_i ty ht
    split at h
    ·rename_i fs hu
     split at h
     ·rename_i zs hz;obtain⟨h1,h⟩:=Z02 h
      split at h
      ·rename_i r hr;obtain⟨ds,h2,h3⟩:=Zuz hT ho ht hu hz h1 hr h;exact⟨_,_,h2,h3⟩
      exact h.elim
     exact h.elim
    exact h.elim
   exact h.elim
  exact old h
 ·rename_i t x f ho
  split at h
  ·rename_i cs hx
   split at h
   ·rename_i ty ht
    split at h
    ·rename_i fs hu
     split at h
     ·rename_i fd hf
      split at h
      ·rename_i fty hft
       split at h
       ·rename_i hd;obtain⟨h1,h⟩:=Z02 h;rw[Z3e]at h;have hs:=Zvd (ob:=ob) hT ho hx ht hu hf hft hd (qi h1)
        split at h
        ·rename_i ps hps;exact⟨_,_,h,hs.mixpv hps⟩
        exact⟨_,_,h,hs⟩
       rename_i hd;obtain⟨p,h1,h2⟩:=Zac h;exact⟨_,_,h2,Zve hT ho hx ht hu hf hft hd h1⟩
      exact h.elim
     exact h.elim
    exact h.elim
   exact h.elim
  exact old h
 ·rename_i t x ho
  split at h
  ·rename_i kk look hx;obtain⟨h1,h⟩:=Z02 h;obtain⟨h2,h⟩:=Z02 h;exact⟨_,_,h,(Zig hT ho hx h1).toN (Fresh.new h2)⟩
  ·rename_i l hx
   split at h
   ·rename_i kk look hob;obtain⟨h1,h⟩:=Z02 h;obtain⟨h2,h⟩:=Z02 h;obtain⟨v,u,hK,hS,hF⟩:=Z72 (o:=o) (ev:=ev) h (fun z hz=>by simp[ho,Op.operands]at hz;subst hz;simp[hx]) (fun z hz=>by simp at hz;subst hz;exact⟨x,by simp[ho,Op.operands],hx⟩) fun K h=>by
     split at h
     ·rename_i kk' look' hfz;exact⟨_,_,h,Zig (ev:=fun x=>frzV ob (ev x)) hT ho (by simp only[hx];exact hfz) h1,Fresh.new h2⟩
     exact h.elim
    exact⟨v,u,hK,hS.toN hF⟩
   exact h.elim
  exact old h
 ·rename_i x ho
  split at h
  ·rename_i l hx
   split at h
   ·rename_i kk look k seen hob;obtain⟨p,h1,h2⟩:=h;exact⟨_,_,h2,(Zv7 ho hx hob h1).toN Fresh.nil⟩
   exact h.elim
  exact h.elim
 ·rename_i t x i ho
  split at h
  ·rename_i l hx
   split at h
   ·rename_i size n f hob
    split at h
    ·rename_i k ix hi;obtain⟨h1,⟨h2,h3⟩,h⟩:=Z02 h;exact⟨_,_,h,(Zwf hT ho hx hob hi (Z27 h1) h2 h3).toN Fresh.nil⟩
    exact h.elim
   exact h.elim
  ·rename_i size n f hx
   split at h
   ·rename_i k ix hi;obtain⟨h1,⟨h2,h3⟩,h⟩:=Z02 h;exact⟨_,_,h,(Zwh hT ho hx hi (Z27 h1) h2 h3).toN Fresh.nil⟩
   exact h.elim
  exact h.elim
 ·rename_i t x i ho
  split at h
  ·rename_i l hx
   split at h
   ·rename_i size n f hob
    split at h
    ·rename_i k ix hi;obtain⟨h1,h⟩:=Z02 h;obtain⟨h0,⟨h2,h3⟩,h⟩:=Z02 h;refine⟨_,_,h,(Zwg hT ho hx hob hi (Z27 h1) h2 h3 (by simpa using h0)).toN fun k hk=>?_⟩;rw[Z2h]at hk
     split at hk
     ·rename_i e;subst e;exact .inr (by simpa using h0)
     rw[Z04]at hk
     split at hk
     ·rename_i e;subst e;exact .inl ⟨x,by simp[ho,Op.operands],by simp[hx,refs]⟩
     exact absurd rfl hk
    exact h.elim
   exact h.elim
  exact old h
 ·rename_i t x i ho
  split at h
  ·rename_i l size a n hx
   split at h
   ·rename_i k ix hi;obtain⟨h0,h⟩:=Z02 h;obtain⟨h1,⟨h2,h3⟩,h⟩:=Z02 h;exact⟨_,_,h,(Zvj hT ho hx h0 hi (Z27 h1) h2 h3).toN Fresh.nil⟩
   exact h.elim
  exact old h
 ·rename_i c ho;obtain⟨callee,args,ats⟩:=c;simp only at h
  split at h
  ·rename_i fo
   split at h
   ·rename_i g caps hf;rcases h with h|h|h|h|h
    ·obtain⟨v,u,h1,h2,h3⟩:=Zdd ho hf h;exact⟨v,u,h1,h2.toN h3⟩
    ·obtain⟨v,u,h1,h2,h3⟩:=Zdf ho hf h;exact⟨v,u,h1,h2.toN h3⟩
    ·obtain⟨v,u,h1,h2,h3⟩:=Zde ho hf h;exact⟨v,u,h1,h2.toN h3⟩
    ·exact Zoh ho hf h
    exact Zof ho hf h
   exact old h
  ·rename_i b
   split at h
   ·rename_i x t
    split at h
    ·rename_i l size a n hx;obtain⟨h0,h⟩:=Z02 h;obtain⟨h1,h⟩:=Z02 h;exact⟨_,_,h,(Zvs hT ho hx h0 (Z27 h1)).toN Fresh.nil⟩
    exact old h
   ·rename_i x t
    split at h
    ·rename_i l size a m hx
     split at h
     ·rename_i s n f hob;obtain⟨h0,k1⟩:=Z02 h;obtain⟨h1,k2⟩:=Z02 k1;have h0:=qg h0;subst h0;clear h k1
      split at k2
      ·rename_i zs hz;exact⟨_,_,k2.2,(Zv4 hT ho hx hob h1 hz k2.1).toN (Fresh.old (y:=x) (by simp[ho,Op.operands,Call.operands]) (by simp[hx,refs]))⟩
      exact k2.elim
     exact h.elim
    exact h.elim
   ·rename_i x y t t2
    split at h
    ·rename_i kk0 z hm
     split at h
     ·rename_i i hx
      split at h
      ·rename_i kk look hob;obtain⟨h1,k1⟩:=Z02 h;have:=Za3 h1;subst this;obtain⟨k,k2,hy⟩:=Za1 k1;exact⟨_,_,k2,(Zv6 hT ho hm hx hob hy).toN (Fresh.old (y:=x) (by simp[ho,Op.operands,Call.operands]) (by simp[hx,refs]))⟩
      exact h.elim
     exact h.elim
    exact h.elim
   exact old h
  rename_i recv name
  split at h
  ·rename_i t p hx
   split at h
   ·rename_i ty ht;obtain⟨h0,k⟩:=Z02 h;clear h
    split at k
    ·rename_i ps hps;obtain⟨f,res,hAC,hmf,hK⟩:=k;obtain⟨m,hm,hp,hf⟩:=Zg1 hmf;exact⟨_,_,hK,(Zvn hT ho hx ht h0 hm hp hf (Zam hps) hAC).toN Fresh.nil⟩
    exact Zog hT ho hx ht h0 k
   exact h.elim
  exact h.elim
 exact old h
end
abbrev skipV:AV:=.pv (.val undef)
def guardK(ops:List Oper)(g:Option (Nat×Bool))(s:AState)(K:Bool->AState->Prop):Prop:=
 match g with
 |none=>K true s
 |some (j,want)=>match ops[j]? with
  |some o=>match o.dst with
   |some t=>match s with
    |⟨tm,ob⟩=>match getT tm t with
     | .pv (.val (.tuple _))=>K false ⟨tm,ob⟩
     | .pv (.val (.bool b))=>(match b,want with|true,true=>K true ⟨tm,ob⟩|false,false=>K true ⟨tm,ob⟩|true,false=>K false ⟨tm,ob⟩|false,true=>K false ⟨tm,ob⟩)
     | .pv (.sb b)=>(b=true->K want ⟨(t,.pv (.val (.bool true)))::tm,ob⟩)∧(b=false->K (!want) ⟨(t,.pv (.val (.bool false)))::tm,ob⟩)
     |_=>False
   |none=>False
  |none=>False
def aopcX(P:Program)(T:Tab)(o:Oper)(id:Nat)(ev:Operand->AV)(ob:Nat->Option AObj)(K:AV->Upd->Prop):Prop:=
 match o.op with
 | .next x false=>match ev x with
  | .ref l=>match ob l with
   |some (.miter kk look seen)=>(∀k p,kk.has k->look k=some p->k∉seen->K (.pv (.tup [.val (.bool true),ofConst k,p])) [(l,.miter kk look (k::seen))])∧((∀k p,kk.has k->look k=some p->k∈seen)->K (.pv (.tup [.val (.bool false)])) [])
   |_=>False
  |_=>False
 |_=>aopcN P T o id ev ob K
def nextS(nt:Nat)(d:Option Nat)(s:AState)(v:AV)(u:Upd)(K:AState->Prop):Prop:=
 match s with
 |⟨tm,ob⟩=>match d with
  |some t=>chk (Nat.blt t nt) (match u with
   | []=>K ⟨(t,v)::tm,ob⟩
   | [x]=>K ⟨(t,v)::tm,x::ob⟩
   |u=>K ⟨(t,v)::tm,u++ob⟩)
  |none=>match u with
   | []=>K ⟨tm,ob⟩
   | [x]=>K ⟨tm,x::ob⟩
   |u=>K ⟨tm,u++ob⟩
def idOf(d:Option Nat):Nat:=match d with|some t=>t|none=>0
def opS(P:Program)(T:Tab)(nt:Nat)(o:Oper)(s:AState)(K:AState->Prop):Prop:=
 match s with
 |⟨tm,ob⟩=>match o with
  |⟨none,op,ty,pos,after,guard⟩=>aopcX P T ⟨none,op,ty,pos,after,guard⟩ 0 (evO tm) (getO ob) fun v u=>nextS nt none ⟨tm,ob⟩ v u K
  |⟨some d,op,ty,pos,after,guard⟩=>aopcX P T ⟨some d,op,ty,pos,after,guard⟩ d (evO tm) (getO ob) fun v u=>nextS nt (some d) ⟨tm,ob⟩ v u K
def arun(P:Program)(T:Tab)(nt:Nat)(ops:List Oper):List Oper->AState->(AState->Prop)->Prop
 | [],s,K=>K s
 |o::r,s,K=>guardK ops o.guard s fun b s=>match b with
  |true=>opS P T nt o s fun s=>arun P T nt ops r s K
  |false=>nextS nt o.dst s skipV [] fun s=>arun P T nt ops r s K
section
variable {P:Program} {T:Tab} {E:FEnv}
theorem Zgj(hE:E.ok)(hT:T.ok P){o:Oper}{s:AState}{K:AState->Prop}{σ:Sig}{a:Act}{w:World}{Q:Exit->Act->World->Prop}(hR:Rel P E s σ a w)(h:opS P T E.nt o s K) :
  o.wp P a w (fun a' w'=>∃s' σ',K s'∧Rel P E s' σ' a' w') Q:=by
 obtain⟨tm,ob⟩:=s;have h2:aopcX P T o (idOf o.dst) (evO tm) (getO ob) fun v u=>nextS E.nt o.dst ⟨tm,ob⟩ v u K:=by
  obtain⟨d,op,ty,pos,after,guard⟩:=o;cases d<;>exact h
 have hi:=hR.inv hE;have wrap:∀(v:AV) (u:Upd),nextS E.nt o.dst ⟨tm,ob⟩ v u K->K ⟨putT tm o.dst v,u++ob⟩∧∀t,o.dst=some t->t<E.nt:=by
  intro v u hK;refine⟨?_,fun t ht=>?_⟩
  ·cases hd':o.dst with
   |none=>
    rw[hd']at hK;unfold nextS at hK;simp only at hK
    match u,hK with
    | [],hK=>exact hK
    | [x],hK=>exact hK
    |x::y::r,hK=>exact hK
   |some t=>
    rw[hd']at hK;unfold nextS at hK;have hK:=(Z02 hK).2
    match u,hK with
    | [],hK=>exact hK
    | [x],hK=>exact hK
    |x::y::r,hK=>exact hK
  rw[ht]at hK;unfold nextS at hK;exact qi (Z02 hK).1
 have one:aopcN P T o (idOf o.dst) (evO tm) (getO ob) (fun v u=>nextS E.nt o.dst ⟨tm,ob⟩ v u K)->o.wp P a w (fun a' w'=>∃s' σ',K s'∧Rel P E s' σ' a' w') Q:=by
  intro h3;obtain⟨v,u,hK,hS⟩:=Z8w hT h3;have hnear:∀k,near o (evO tm) (getO ob) k->getO ob k≠none:=by
   rintro k (⟨x,hx,hk⟩|⟨x,hx,l,hl,obj,hob,hk⟩|⟨x,hx,m,hm,obj',hob',l,hl,obj,hob,hk⟩)
   ·exact Z9e hR x k hk
   ·exact hR.wo l obj hob k hk
   exact hR.wo l obj hob k hk
  obtain⟨hK',hd⟩:=wrap v u hK;refine(hS.runs E.St E.M0 σ w a.eval hi (fun x _=>Z49 hE hR x) (fun k _ obj e=>hR.ob k obj e) hnear (fun l _ h1=>hR.nob l h1)).wp (fun v' w' ⟨σ',hp⟩=>?_);refine⟨_,σ',hK',RelF.post (tmf':=getT (putT tm o.dst v)) (obf':=getO (u++ob)) hE hR hp hd (fun l obj e=>(hS.lv l obj e).2) (fun l hl=>(hS.rv l hl).imp (hnear l) id) (fun i obj e l hl=>(hS.ro i obj e l hl).imp (hnear l) id) (fun t=>?_) (fun l=>?_)⟩
  ·cases hd':o.dst with
   |none=>exact .inr ⟨by simp,by simp[putT]⟩
   |some d=>
    simp only[putT,Z0m,qw]
    by_cases e:d=t
    ·exact .inl ⟨e,by rw[qK e]⟩
    exact .inr ⟨fun h=>e (qN h),by rw[qJ e]⟩
  simp only[Z4g];cases e:getO u l with
  |none=>exact .inr ⟨rfl,rfl⟩
  |some x=>exact .inl ⟨x,rfl,rfl⟩
 unfold aopcX at h2
 split at h2
 ·rename_i x ho
  split at h2
  ·rename_i l hx
   split at h2
   ·rename_i kk look seen hob;obtain⟨h3,h4⟩:=h2;refine(Zrt (K:=fun v u=>nextS E.nt o.dst ⟨tm,ob⟩ v u K) ho hx h3 h4 hi (Z49 hE hR x) (hR.ob l _ hob)).wp (fun v' w' ⟨p,u,σ',hK,hp,hu⟩=>?_);obtain⟨hK',hd⟩:=wrap _ u hK;have hul:∀k obj,getO u k=some obj->k=l∧refsO obj = []:=by
     intro k obj e;rcases hu with rfl|⟨ky,rfl⟩
     ·simp[getO]at e
     rw[Z04]at e
     split at e
     ·rename_i h5;cases e;exact⟨h5.symm,rfl⟩
     cases e
    refine⟨_,σ',hK',RelF.post (tmf':=getT (putT tm o.dst (.pv p))) (obf':=getO (u++ob)) hE hR hp hd (fun k obj e=>?_) (fun k hk=>by simp[refs]at hk) (fun i obj e k hk=>by rw[(hul i obj e).2]at hk;simp at hk) (fun t=>?_) (fun k=>?_)⟩
    ·rw[(hul k obj e).1];exact .inr (.inl (by show liveO (getO ob l)=true;rw[hob];rfl))
    ·cases hd':o.dst with
     |none=>exact .inr ⟨by simp,by simp[putT]⟩
     |some d=>
      simp only[putT,Z0m,qw]
      by_cases e:d=t
      ·exact .inl ⟨e,by rw[qK e]⟩
      exact .inr ⟨fun h=>e (qN h),by rw[qJ e]⟩
    simp only[Z4g];cases e:getO u k with
    |none=>exact .inr ⟨rfl,rfl⟩
    |some x=>exact .inl ⟨x,rfl,rfl⟩
   exact h2.elim
  exact h2.elim
 exact one h2
theorem Rel.setT{s:AState}{σ:Sig}{a:Act}{w:World}(hR:Rel P E s σ a w)(t:Nat)(p:PV)(h:PR w (Mof E.M0 σ) p (a.tmps.getD t undef)):Rel P E ⟨(t,.pv p)::s.tm,s.ob⟩ σ a w:=
 { hR with
  tm:=fun t'=>by
   simp only[Z0m]
   by_cases e:t=t'
   ·subst e;rw[qK rfl];exact .pv _ _ h
   ·rw[qJ e];exact hR.tm t'
  wt:=fun t' l hl=>by
   simp only[Z0m]at hl
   split at hl
   ·simp[refs]at hl
   ·exact hR.wt t' l hl }
theorem Rel.skip{s:AState}{σ:Sig}{a:Act}{w:World}(hR:Rel P E s σ a w)(d:Option Nat)(hd:∀t,d=some t->t<E.nt):Rel P E ⟨putT s.tm d skipV,s.ob⟩ σ (a.put d undef) w:=by
 cases d with
 |none=>exact hR
 |some d=>
  have hlt:d<a.tmps.size:=by rw[hR.sz];exact hd d rfl
  refine⟨by simp[Act.put,hR.sz],hR.df,fun t=>?_,hR.ob,hR.nob,fun t l hl=>?_,hR.wo,hR.sep,hR.own,hR.ext,hR.pn⟩
  ·simp only[putT,Act.put,Z0m]
   by_cases e:d=t
   ·rw[qK e];subst e;simp[qb,hlt];exact .pv _ _ (.val _)
   rw[qJ e];have:=hR.tm t;simpa[qb,Array.getElem?_setIfInBounds_ne e]using this
  simp only[putT,Z0m]at hl
  split at hl
  ·simp[refs]at hl
  exact hR.wt t l hl
theorem Z9u{ops:Array Oper}{o:Oper}{s:AState}{K:Bool->AState->Prop}{σ:Sig}{a:Act}{w:World}(hR:Rel P E s σ a w)(h:guardK ops.toList o.guard s K) :
  ∃s',K (Region.wanted o (yielded ops a.tmps)) s'∧Rel P E s' σ a w:=by
 unfold guardK at h;unfold Region.wanted
 split at h
 ·rename_i hg;rw[hg];exact⟨s,h,hR⟩
 rename_i j want hg;rw[hg]
 split at h
 ·rename_i oj hj
  split at h
  ·rename_i t ht;obtain⟨tm,ob⟩:=s;simp only at h;have hj':ops[j]? = some oj:=by simpa using hj
   have hy:∀b,a.tmps.getD t undef = .bool b->yielded ops a.tmps j=some b:=by
    intro b hb;have hlt:t<a.tmps.size:=by
     rcases Nat.lt_or_ge t a.tmps.size with h1|h1
     ·exact h1
     simp[Array.getD,Nat.not_lt.2 h1,undef]at hb
    have:a.tmps[t]? = some (.bool b):=by
     simp[Array.getD,hlt]at hb;simp[hlt,hb]
    simp[yielded,hj',ht,this]
   split at h
   ·rename_i vs hb;have h1:=hR.tm t;rw[show getT tm t = .pv (.val (.tuple vs))from hb]at h1;have hv:=pr_val (arg_pv h1);have h2:yielded ops a.tmps j=none:=by
     have h3:a.tmps[t]? = none∨a.tmps[t]? = some (.tuple vs):=by
      rcases Nat.lt_or_ge t a.tmps.size with h4|h4
      ·right;simp[Array.getD,h4]at hv;simp[h4,hv]
      left;simp[h4]
     rcases h3 with h3|h3<;>simp[yielded,hj',ht,h3]
    simp only[h2];cases want<;>exact⟨_,h,hR⟩
   ·rename_i b hb;have h1:=hR.tm t;rw[show getT tm t = .pv (.val (.bool b))from hb]at h1;have h2:=hy b (pr_val (arg_pv h1));simp only[h2];cases b<;>cases want<;>exact⟨_,h,hR⟩
   ·rename_i b hb;have h1:=hR.tm t;rw[show getT tm t = .pv (.sb b)from hb]at h1;have hv:=pr_sb (arg_pv h1);have h2:=hy b hv;simp only[h2];cases b with
    |true=>
     refine⟨_,?_,hR.setT t (.val (.bool true)) (by rw[hv];exact .val _)⟩;have:=h.1 rfl;cases want<;>exact this
    |false=>
     refine⟨_,?_,hR.setT t (.val (.bool false)) (by rw[hv];exact .val _)⟩;have:=h.2 rfl;cases want<;>exact this
   exact h.elim
  exact h.elim
 exact h.elim
theorem Z92(hE:E.ok)(hT:T.ok P){ops:Array Oper}{K:AState->Prop}{Q:Exit->Act->World->Prop}(hQ:∀s σ a w,K s->Rel P E s σ a w->Q .normal a w) :
  ∀(l:List Oper) (i:Nat) (s:AState) (σ:Sig) (a:Act) (w:World),(∀j,l[j]? = ops[i+j]?)->Rel P E s σ a w->arun P T E.nt ops.toList l s K->wpOps P ops Q (List.range' i l.length) a w
 | [],i,s,σ,a,w,_,hR,h=>by simpa[wpOps]using hQ s σ a w h hR
 |o::l,i,s,σ,a,w,hl,hR,h=>by
  have ho:ops[i]? = some o:=by simpa using(hl 0).symm
  have hl':∀j,l[j]? = ops[i+1+j]?:=fun j=>by have:=hl (j+1);simpa[Nat.add_assoc,Nat.add_comm 1 j]using this
  simp only[qy,List.range'_succ,wpOps,ho];unfold arun at h;obtain⟨s',hK,hR'⟩:=Z9u (ops:=ops) hR h;cases hw:Region.wanted o (yielded ops a.tmps)with
  |true=>
   rw[hw]at hK;simp only[if_true];exact .inl (Oper.wp_mono (fun a' w' ⟨s2,σ2,hs2,hR2⟩=>Z92 hE hT hQ l (i+1) s2 σ2 a' w' hl' hR2 hs2) (Zgj hE hT hR' hK))
  |false=>
   rw[hw]at hK;simp only[Bool.false_eq_true,if_false];obtain⟨tm,ob⟩:=s';have hd:∀t,o.dst=some t->t<E.nt:=by
    intro t ht;simp only[ht]at hK;unfold nextS at hK;exact qi (Z02 hK).1
   have h2:=hR'.skip o.dst hd;refine Z92 hE hT hQ l (i+1) _ σ _ w hl' h2 ?_;cases hd':o.dst with
   |none=>rw[hd']at hK;exact hK
   |some t=>rw[hd']at hK;exact(Z02 hK).2
end
end Go.Abs
