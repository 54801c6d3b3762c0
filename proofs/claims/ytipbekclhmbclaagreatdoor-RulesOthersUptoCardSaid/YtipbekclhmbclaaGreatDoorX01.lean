/- YtipbekclhmbclaaGreatDoorX01: walks and contracts. -/
import Derived.Test.YtipbekclhmbclaaGreatDoorX00
import Derived.Laws.RangeAny
import Derived.Lib.OthersKept
import Derived.MapKept
import Derived.WideKeyRuns
import Derived.Laws.MakeOwn
import Derived.Laws.Cover3

set_option linter.unusedVariables false
set_option linter.unusedSimpArgs false
set_option linter.unusedSectionVars false

namespace Go.Abs
open Go.RowKit
variable [Globals]
section steps
variable {P:Program} {T:Tab} {o:Oper} {ev:Operand->AV} {ob:Nat->Option AObj} {K:AV->Upd->Prop}
theorem Zq6{w:World}{M:Nat->Prop}{St:Nat->Prop}{σ:Sig}{e:TypeId}{i:TypeInfo}{z:Value}{t:TypeId}(hE:ElemOf P t e i z){m sCap:Nat}{g:Nat->List PV}{news:List Value}
  (hln:news.length=m*i.size) (hn1:∀u∈news,u.oneCell'=true) (hg:∀k,k<m->(g k).length=i.size) (hnp:∀k,k<m->∀(j:Nat) (p:PV),(g k)[j]? = some p->PR w M p (news.getD (k*i.size+j) undef))
  (hmax:m<=maxLen) {w':World} (hs:Same M w w') {M':Nat->Prop} (hm:∀b,b<w.heap.size->M' b->M b)
  (hw':w'.heap[w.heap.size]? = some (.cells (news.toArray++Builtin.zeroCells z.cells (grownCap w m sCap e-m)) e)) :
  OR P w' St M' σ (.row i.size m g) ⟨.slice (some ⟨w.heap.size,0,none⟩) m (grownCap w m sCap e),some w.heap.size⟩:=by
 have:=Zep (P:=P) (St:=St) (σ:=σ) (f:=fun _=>[]) (olds:=[]) (n:=0) (m:=m) (sCap:=sCap) hE (by simp) (fun u hu=>by simp at hu) (fun k hk=>absurd hk (by omega)) (fun k hk=>absurd hk (by omega)) hln hn1 hg hnp (by omega) (w':=w') hs hm (by simpa using hw');simpa using this
theorem Zib{x y:Operand}{t tx:TypeId}{d size m:Nat}{g:Nat->List PV}(hT:T.ok P)(ho:o.op = .call { callee:=.builtin .append,args:=#[x,y],argTypes:=#[t,tx] })
  (hx:ev x = .pv .cap0∨ev x = .pv (.val (.slice none 0 0))) (hy:SrcArg ob (ev y) size m g) (he:elemOf T t size=true) (hk:isSliceT T tx=true) (hmax:m<=1073741824) (hdl:d∉refs (ev y)) :
  Step P o ev ob [(d,.row size m g)] (.own d):=by
 have hxm:x∈o.op.operands:=by simp[ho,Op.operands,Call.operands]
 have hym:y∈o.op.operands:=by simp[ho,Op.operands,Call.operands]
 have hback:∀u∈o.op.operands,d∉refs (ev u):=by
  intro u hu;simp[ho,Op.operands,Call.operands]at hu;rcases hu with rfl|rfl
  ·rcases hx with hx|hx<;>rw[hx]<;>simp[refs]
  ·exact hdl
 refine⟨?_,fun k hl=>.inr (by simp[refs]at hl;subst hl;simp[getO]),fun i obj e' k hl=>by rw[Z04]at e';split at e'<;>cases e';simp[refsO]at hl,fun k obj e' ⟨u,hu,hl⟩=>?_⟩
 ·intro St M0 σ w ρ hi ha hobj hf;obtain⟨e,i,z,hE,hsize⟩:=Z6r hT he;subst hsize;obtain⟨stx,tyx,ex,_,htx,hex,_,_⟩:=Z78 hk;obtain⟨_,hux,_⟩:=hT _ _ htx;rw[hex]at hux;have hvx:∃a,ρ x = .slice a 0 0:=by
   have h:=ha x hxm;rcases hx with hx|hx<;>rw[hx]at h
   ·have h:=arg_pv h;cases h':ρ x<;>rw[h']at h<;>cases h;exact⟨_,rfl⟩
   ·exact⟨none,pr_val (arg_pv h)⟩
  obtain⟨a,hvx⟩:=hvx;obtain⟨news,hs,hg,hnp⟩:=(hy.src hE.pos (ha y hym) (fun k hk obj e'=>hobj y hym k hk obj e')).kit hux;have hfr:σ d=none:=by
   rcases hf d (by simp[getO])with⟨u,hu,hl⟩|⟨h,_⟩
   ·exact absurd hl (hback u hu)
   ·exact h
  by_cases hm:m=0
  ·subst hm;have hrun:=Zhi (P:=P) (w:=w) (t:=t) (tx:=tx) (ty:=o.type) hE (a:=a) (cap:=0) hs;unfold OpRuns;rw[show(execOp ρ o).run P w = .ok (.value (.slice a 0 0)) w from by
    simp only[execOp,ho,resolve];simp[invoke,builtin,hvx,hrun]]
   exact⟨_,Post.made (loc:=⟨.slice a 0 0,none⟩) hi hfr (fun b hb=>by cases hb) (FExt.refl _ _) (by simp) (.row0 _ _ a)⟩
  ·have hmx:m<=maxLen:=by unfold maxLen;omega
   have hby:=hE.small;have hfit:m*i.bytes<=140737488355328:=by
    have:m*i.bytes<=1073741824*65536:=Nat.mul_le_mul hmax hby;omega
   have hold:(Builtin.firstCells i.size 0 (.slice a 0 0)).run P w.drew = .ok ([]:List Value).toArray w.drew:=by
    cases a<;>simp[Builtin.firstCells,loadCells,loadCellsFrom]
   have hlt:0<0+m:=by omega
   have hrun:=run_append_grow_src (P:=P) w t tx o.type e i z hE.ht hE.hi hE.hz a 0 0 [] hold (ρ y) m news hs hlt (by omega) (growslice_fits hlt (by simpa using hfit));simp only[Nat.zero_add,List.nil_append]at hrun;generalize hc:(news.toArray++Builtin.zeroCells z.cells (grownCap w m 0 e-m))=cs at hrun;generalize hcap:grownCap w m 0 e=cap at hrun;have hx2:FExt (fun _=>False) w (w.drew.alloc (.cells cs e)):=
    ⟨rfl,rfl,rfl,(Z2o (fun _=>False) w.drew _).1,fun b hb _=>Z12 w.drew _ b hb,Nat.le_succ _⟩
   unfold OpRuns;rw[show(execOp ρ o).run P w = .ok (.value (.slice (some ⟨w.heap.size,0,none⟩) m cap)) (w.drew.alloc (.cells cs e))from by
    simp only[execOp,ho,resolve];simp[invoke,builtin,hvx,hrun]]
   refine⟨_,Post.made (loc:=⟨.slice (some ⟨w.heap.size,0,none⟩) m cap,some w.heap.size⟩) hi hfr (fun b hb=>by cases hb;exact qL _) hx2 (by simp) ?_⟩;rw[<-hcap];exact Zq6 hE hs.newsLen hs.one hg hnp hmx ⟨hx2.size,fun b hb _=>hx2.block b hb (fun h=>h)⟩ (fun b hb hh=>Z5n (n:=w.heap.size) (fun b hb=>by cases hb;exact qL _) b hb hh) (by rw[hc];exact Z0g w.drew _)
 ·by_cases e2:d=k
  ·subst e2;exact absurd hl (hback u hu)
  ·rw[Z04,qJ e2]at e';cases e'
def frz1(ob:Nat->Option AObj):AV->AV
 | .own l=>match ob l with
  |some (.row size n f)=>.pv (.ro size n f)
  |_=>.own l
 | .ref l=>match ob l with
  |some (.map kk look)=>.pv (.map kk look)
  |_=>.ref l
 |v=>v
def frzV(ob:Nat->Option AObj):AV->AV
 | .own l=>match ob l with
  |some (.row size n f)=>.pv (.ro size n f)
  |_=>.own l
 | .ref l=>match ob l with
  |some (.map kk look)=>.pv (.map kk look)
  |_=>.ref l
 | .mix cs=>match pvL (cs.map (frz1 ob))with
  |some ps=>.pv (.agg ps)
  |none=>.mix cs
 |v=>v
theorem Z4f{ob:Nat->Option AObj}{x:AV}{l:Nat}(h:l∈refs (frzV ob x)):l∈refs x:=by
 cases x with
 |own k=>
  simp only[frzV]at h
  split at h
  ·simp[refs]at h
  exact h
 |ref k=>
  simp only[frzV]at h
  split at h
  ·simp[refs]at h
  exact h
 |mix cs=>
  simp only[frzV]at h
  split at h
  ·simp[refs]at h
  exact h
 |_=>exact h
theorem Z74{L:List Nat}{l:Nat}:∀ {u:Upd},getO (u++goneL L) l=(match getO u l with|some x=>some x|none=>if l∈L then some .gone else none)
 | []=>by simp[getO,Z1o]
 |(i,x)::u=>by
  simp only[List.cons_append,Z2h]
  by_cases e:i=l
  ·simp[e]
  simp only[e,if_false];exact Z74 (u:=u)
theorem OpRuns.mono'{w:World}{ρ:Operand->Value}{R R':Value->World->Prop}(hR:∀v w',R v w'->R' v w')(h:OpRuns P o ρ w R):OpRuns P o ρ w R':=by
 unfold OpRuns at *
 split at h
 ·exact hR _ _ h
 ·exact hR _ _ h
 ·exact h.mono fun e w'' ⟨v,he,hr⟩=>⟨v,he,hR _ _ hr⟩
 exact h.elim
def dropL(σ:Sig)(L:List Nat):Sig:=fun k=>if k∈L then none else σ k
theorem Z0s{σ:Sig}{L:List Nat}{k:Nat}{loc:Loc}(h:dropL σ L k=some loc):σ k=some loc∧k∉L:=by
 unfold dropL at h
 split at h
 ·cases h
 exact⟨h,‹_›⟩
theorem Z1q{σ:Sig}{L:List Nat}{b:Nat}(h:owned (dropL σ L) b):owned σ b:=by
 obtain⟨k,loc,e,hb⟩:=h;exact⟨k,loc,(Z0s e).1,hb⟩
theorem Inv.dropL{St M0:Nat->Prop}{σ:Sig}{w:World}(hi:Inv St M0 σ w)(L:List Nat):Inv St M0 (dropL σ L) w:=
 ⟨fun k k' lc lc' b e e' eb eb'=>hi.sep k k' lc lc' b (Z0s e).1 (Z0s e').1 eb eb',fun b h=>hi.lt b (Z1q h),fun b h=>⟨(hi.m0 b h).1,fun hh=>(hi.m0 b h).2 (Z1q hh)⟩,
  fun b h=>⟨(hi.st b h).1,fun hh=>(hi.st b h).2 (Z1q hh)⟩,hi.gl.mono (Same.refl _ w) (fun b _ hb=>hb.imp id Z1q)⟩
theorem Zgf{St M0:Nat->Prop}{σ:Sig}{w:World}(hi:Inv St M0 σ w){L:List Nat}{l b:Nat}{loc:Loc}(hl:σ l=some loc)(hb:loc.blk=some b)(hL:l∈L):¬Mof M0 (dropL σ L) b:=by
 rintro (h|⟨k,lc,h1,h2⟩)
 ·exact(hi.m0 b h).2 ⟨l,loc,hl,hb⟩
 obtain⟨h3,h4⟩:=Z0s h1;exact h4 (hi.sep k l lc loc b h3 hl h2 hb▸hL)
theorem Z4e{St M0:Nat->Prop}{σ:Sig}{w:World}(hi:Inv St M0 σ w){x:AV}{v:Value}{L:List Nat}(hA:AR P w St (Mof M0 σ) σ x v)(hobj:∀l∈refs x,∀obj,ob l=some obj->At P w St M0 σ l obj)
  (hL:∀l∈refs x,l∉refs (frz1 ob x)->l∈L):AR P w St (Mof M0 (dropL σ L)) (dropL σ L) (frz1 ob x) v:=by
 have hM:∀b,b<w.heap.size->Mof M0 (dropL σ L) b->Mof M0 σ b:=fun b _ hb=>hb.imp id Z1q
 have hmono:∀(x:AV) (vx:Value),AR P w St (Mof M0 σ) σ x vx->AR P w St (Mof M0 (dropL σ L)) (dropL σ L) x vx:=fun x vx hx=>hx.mono (Same.refl _ w) hM (fun _ _ _=>rfl) (fun l _ loc hh=>(Z0s hh).1)
 cases x with
 |own l=>
  unfold frz1;simp only;split
  ·rename_i size n f hob;obtain⟨loc,hl,hor⟩:=hobj l (by simp[refs]) _ hob;have hv:=Z0l hA hl;have hlL:=hL l (by simp[refs]) (by simp[frz1,hob,refs]);refine .pv _ _ ?_;rw[hv];cases hor with
   |row0 size f a=>exact .ro size 0 f a 0 (fun _ _=>undef) (qL _) (qe _) (fun _=>Eq.refl _) (fun i h=>absurd h (by omega)) (fun h=>absurd h (by omega)) (fun i h=>absurd h (by omega))
   |row size n f b cap vs t hb hn hmax hsz hs hh h1=>
    refine .ro size n f (some ⟨b,0,none⟩) cap (fun i j=>vs.getD (i*size+j) undef) hn hmax (fun h=>by cases h) hs (fun _=>⟨_,rfl,Z0e hb,Zgf hi hl rfl hlL,fun i hi' j hj=>?_⟩) (fun i hi' j p e=>(hh i hi' j p e).mono (Same.refl _ w) hM);have hlt:i*size+j<vs.size:=by
     have:=idx_lt hi' hj;have h2:n*size<=cap*size:=qu _ hn;omega
    refine⟨?_,h1 _ hlt⟩;rw[Z2b];simp only[World.cell?,hb];simp[Array.getD,hlt]
  exact hmono _ _ hA
 |ref l=>
  unfold frz1;simp only;split
  ·rename_i kk look hob;obtain⟨loc,hl,hor⟩:=hobj l (by simp[refs]) _ hob;have hv:=Z1w hA hl;have hlL:=hL l (by simp[refs]) (by simp[frz1,hob,refs]);refine .pv _ _ ?_;rw[hv];cases hor with
   |map _ _ r es clock em ev' hr hk hf' hp hn=>
    exact .map _ _ r es clock em ev' hr (Zgf hi hl rfl hlL) hk hf' (fun k p e e'=>(hp k p e e').mono (Same.refl _ w) hM) hn
  exact hmono _ _ hA
 |_=>exact hmono _ _ hA
theorem Z9p{St M0:Nat->Prop}{σ:Sig}{w:World}(hi:Inv St M0 σ w){x:AV}{v:Value}{L:List Nat}(hA:AR P w St (Mof M0 σ) σ x v)(hobj:∀l∈refs x,∀obj,ob l=some obj->At P w St M0 σ l obj)
  (hL:∀l∈refs x,l∉refs (frzV ob x)->l∈L):AR P w St (Mof M0 (dropL σ L)) (dropL σ L) (frzV ob x) v:=by
 have hM:∀b,b<w.heap.size->Mof M0 (dropL σ L) b->Mof M0 σ b:=fun b _ hb=>hb.imp id Z1q
 cases x with
 |mix cs=>
  unfold frzV at hL ⊢;simp only at hL ⊢;split
  ·rename_i ps hps;rw[hps]at hL;obtain⟨hlen,hget⟩:=Z3m hps;cases hA with
   |mix _ vs hl h h1=>
    refine .pv _ _ (.agg _ _ (by rw[hl,hlen,List.length_map]) (fun i p e=>?_) h1);have hp:=hget i p e;rw[qx]at hp;cases hc:cs[i]? with
    |none=>rw[hc]at hp;cases hp
    |some c=>
     rw[hc]at hp;simp only[Option.map_some,qw]at hp;have:=Z4e (L:=L) hi (h i c hc) (fun l hl=>hobj l (by simp only[refs];exact Z07 hc l hl)) (fun l hl _=>hL l (by simp only[refs];exact Z07 hc l hl) (by simp[refs]));rw[hp]at this;exact arg_pv this
  exact hA.mono (Same.refl _ w) hM (fun _ _ _=>rfl) (fun l _ loc hh=>(Z0s hh).1)
 |own l=>exact Z4e hi hA hobj hL
 |ref l=>exact Z4e hi hA hobj hL
 |_=>exact Z4e hi hA hobj (fun l hl hn=>absurd hl hn)
theorem Step.frz{L:List Nat}{u:Upd}{v:AV}(h:Step P o (fun x=>frzV ob (ev x)) ob u v)(hL:∀x∈o.op.operands,∀l∈refs (ev x),l∉refs (frzV ob (ev x))->l∈L)
  (hL2:∀l∈L,∀x∈o.op.operands,l∉refs (frzV ob (ev x))) (hu:∀l∈L,getO u l=none):Step P o ev ob (u++goneL L) v:=by
 have hgo:∀l,getO (u++goneL L) l=(match getO u l with|some x=>some x|none=>if l∈L then some .gone else none):=fun l=>Z74
 refine⟨?_,fun l hl=>?_,fun i obj e l hl=>?_,fun l obj e ⟨x,hx,hlx⟩=>?_⟩
 ·intro St M0 σ w ρ hi ha hobj hf;have hM:∀b,b<w.heap.size->Mof M0 (dropL σ L) b->Mof M0 σ b:=fun b _ hb=>hb.imp id Z1q
  have hmono:∀(x:AV) (vx:Value),AR P w St (Mof M0 σ) σ x vx->AR P w St (Mof M0 (dropL σ L)) (dropL σ L) x vx:=fun x vx hx=>hx.mono (Same.refl _ w) hM (fun _ _ _=>rfl) (fun l _ loc hh=>(Z0s hh).1)
  refine OpRuns.mono' ?_ (h.runs St M0 (dropL σ L) w ρ (hi.dropL L) (fun x hx=>?_) (fun x hx l hl obj e=>?_) (fun l hl=>?_))
  ·rintro v' w' ⟨σ',hp⟩
   refine⟨σ',hp.val,fun l x e=>?_,fun l e=>?_,fun l lc lc' e e'=>?_,hp.sep,fun b hb=>(hp.blk b hb).imp Z1q id,hp.ext.mono (fun b _ ⟨l,loc,h1,h2,h3⟩=>⟨l,loc,?_,(Z0s h2).1,h3⟩)⟩
   ·rw[hgo]at e
    split at e
    ·rename_i y hy;cases e;exact hp.obj l _ hy
    rename_i hy
    split at e
    ·rename_i hm;cases e;show σ' l=none
     rw[hp.old l hy];simp[dropL,hm]
    cases e
   ·rw[hgo]at e
    split at e
    ·cases e
    rename_i hy
    split at e
    ·cases e
    rename_i hm;rw[hp.old l hy];simp[dropL,hm]
   ·by_cases hm:l∈L
    ·rw[hp.old l (hu l hm)]at e';simp[dropL,hm]at e'
    exact hp.stay l lc lc' (by simp[dropL,hm,e]) e'
   rw[hgo];cases hy:getO u l with
   |none=>exact absurd hy h1
   |some y=>simp
  ·have hA:=ha x hx;exact Z9p hi hA (hobj x hx) (hL x hx)
  ·have hl':=Z4f hl;have hnL:l∉L:=fun hm=>hL2 l hm x hx hl
   have h1:=hobj x hx l hl' obj e
   by_cases hg:obj = .gone
   ·subst hg;show dropL σ L l=none
    have h1:σ l=none:=h1;simp[dropL,h1]
   obtain⟨loc,h2,h3⟩:=Z0q h1 hg;have h4:dropL σ L l=some loc:=by simp[dropL,hnL,h2]
   have h5:OR P w St (Mof M0 (dropL σ L)) (dropL σ L) obj loc:=h3.mono (Same.refl _ w) hM (fun _ _ _=>rfl) (fun k _ loc' hh=>(Z0s hh).1) (fun _ _=>rfl);cases obj<;>first|exact⟨loc,h4,h5⟩|exact absurd rfl hg
  rcases hf l (by rw[hgo];cases hy:getO u l with|none=>exact absurd hy hl|some y=>simp)with⟨x,hx,hlx⟩|⟨h1,h2⟩
  ·by_cases hm:l∈refs (frzV ob (ev x))
   ·exact .inl ⟨x,hx,hm⟩
   exact absurd (hu l (hL x hx l hlx hm)) hl
  exact .inr ⟨by simp[dropL,h1],fun x hx hm=>h2 x hx (Z4f hm)⟩
 ·rcases h.rv l hl with⟨x,hx,hm⟩|h1
  ·exact .inl ⟨x,hx,Z4f hm⟩
  refine .inr ?_;rw[hgo];cases hy:getO u l with
  |none=>exact absurd hy h1
  |some y=>simp
 ·rw[hgo]at e
  split at e
  ·rename_i y hy;cases e;rcases h.ro i _ hy l hl with⟨x,hx,hm⟩|h1
   ·exact .inl ⟨x,hx,Z4f hm⟩
   refine .inr ?_;rw[hgo];cases hy:getO u l with
   |none=>exact absurd hy h1
   |some y=>simp
  split at e
  ·cases e;simp[refsO]at hl
  cases e
 rw[hgo]at e
 split at e
 ·rename_i y hy;cases e
  by_cases hm:l∈refs (frzV ob (ev x))
  ·exact h.lv l _ hy ⟨x,hx,hm⟩
  rw[hu l (hL x hx l hlx hm)]at hy;cases hy
 split at e
 ·cases e;exact .inr rfl
 cases e
end steps
def Leaf.desc:Leaf->TypeDesc
 | .int k=>.int k
 | .str=>.string
 | .bool=>.bool
structure KeyRuns (P:Program) (kt:TypeId) (kk:KK):Prop where
 check:∀(em:Bool) (v:Value) (w:World),kk.has v->(Instr.checkKey em 10000 kt v).run P w = .ok () w
 find:∀(v:Value) (es:List MapEntry) (w:World),kk.has v->(∀e∈es,kk.has e.key)->∃r,(Instr.findKey kt v es).run P w = .ok r w∧
  ((r=none∧∀(j:Nat) (e:MapEntry),es[j]? = some e->e.key≠v)∨∃(i:Nat) (e:MapEntry),r=some (i,e.val)∧es[i]? = some e∧e.key=v∧∀(j:Nat) (e':MapEntry),j<i->es[j]? = some e'->e'.key≠v)
 stays:∀v:Value,kk.has v->Instr.sameBits 10000 v v=true
theorem Zhl{l:Leaf}{v:Value}{n:Nat}(h:l.has v):Instr.sameBits n v v=true:=by
 cases l with
 |int k=>obtain⟨a,rfl⟩:=h;cases n<;>simp[Instr.sameBits,MapKept.bytes_beq]
 |str=>obtain⟨a,rfl⟩:=h;cases n<;>simp[Instr.sameBits,MapKept.bytes_beq]
 |bool=>obtain⟨a,rfl⟩:=h;cases n<;>simp[Instr.sameBits,MapKept.bytes_beq]
theorem Z77{l:Leaf}{v:Value}(hv:l.has v):MapKept.IsKey l.desc v:=by
 cases l with
 |int k=>obtain⟨a,rfl⟩:=hv;simp[MapKept.IsKey,Leaf.desc]
 |str=>obtain⟨a,rfl⟩:=hv;simp[MapKept.IsKey,Leaf.desc]
 |bool=>obtain⟨a,rfl⟩:=hv;simp[MapKept.IsKey,Leaf.desc]
theorem Zu6{l:Leaf}{x y:Value}(hx:l.has x)(hy:l.has y):∃b,Instr.sameNow l.desc x y=some b∧(b=true↔y=x):=by
 obtain⟨b,h1,h2⟩:=MapKept.sameNow_of_keys (Z77 hx) (Z77 hy);exact⟨b,h1,h2.trans eq_comm⟩
theorem Ze8{l:Leaf}{v:Value}(hv:l.has v):∀(es:List MapEntry) (k:Nat),(∀e∈es,l.has e.key)->∃r,Instr.findNow l.desc v es k=some r∧
  ((r=none∧∀(j:Nat) (e:MapEntry),es[j]? = some e->e.key≠v)∨∃(i:Nat) (e:MapEntry),r=some (k+i,e.val)∧es[i]? = some e∧e.key=v∧∀(j:Nat) (e':MapEntry),j<i->es[j]? = some e'->e'.key≠v)
 | [],k,_=>⟨none,rfl,.inl ⟨rfl,fun j e h=>by simp at h⟩⟩
 |e::es,k,h=>by
  obtain⟨b,hb,hiff⟩:=Zu6 hv (h e (by simp));cases b with
  |true=>exact⟨some (k,e.val),by simp[Instr.findNow,hb],.inr ⟨0,e,rfl,by simp,hiff.1 rfl,fun j e' hj=>absurd hj (by omega)⟩⟩
  |false=>
   have hne:e.key≠v:=fun q=>by have:=hiff.2 q;cases this
   obtain⟨r,hr,hc⟩:=Ze8 hv es (k+1) (fun x hx=>h x (by simp[hx]));refine⟨r,by simp[Instr.findNow,hb,hr],?_⟩;rcases hc with⟨h1,h2⟩|⟨i,e',h1,h2,h3,h4⟩
   ·refine .inl ⟨h1,fun j e' hj=>?_⟩;cases j with
    |zero=>simp at hj;subst hj;exact hne
    |succ j=>exact h2 j e' (by simpa using hj)
   refine .inr ⟨i+1,e',by rw[h1];congr 2;omega,by simpa using h2,h3,fun j e2 hj he=>?_⟩;cases j with
   |zero=>simp at he;subst he;exact hne
   |succ j=>exact h4 j e2 (by omega) (by simpa using he)
theorem KeyRuns.leaf{P:Program}{kt:TypeId}{l:Leaf}(hu:P.underlying kt=some l.desc):KeyRuns P kt (.one l):=by
 refine⟨fun em v w hv=>?_,fun v es w hv hes=>?_,fun v hv=>Zhl hv⟩
 ·exact MapKept.run_checkKey hu (Z77 hv) em 9999
 obtain⟨r,hr,hc⟩:=Ze8 hv es 0 hes;refine⟨r,MapKept.run_findKey hu hr,?_⟩;simpa using hc
def leafOfD:TypeDesc->Option Leaf
 | .int k=>some (.int k)
 | .string=>some .str
 | .bool=>some .bool
 |_=>none
theorem Zr4{d:TypeDesc}{l:Leaf}(h:leafOfD d=some l):d=l.desc:=by
 cases d<;>simp[leafOfD]at h<;>subst h<;>rfl
def flatLs(T:Tab):Nat->List Field->Option (List Leaf)
 |_,[]=>some []
 |off,f::fs=>match Nat.beq f.offset off,(f.name == "_"),T f.type with
  |true,false,some ty=>match leafOfD ty.und,flatLs T (off+1) fs with
   |some l,some ls=>some (l::ls)
   |_,_=>none
  |_,_,_=>none
theorem Zu0{P:Program}{w:World}{t:TypeId}{l:Leaf}{xs:Array Value}{off:Nat}(hu:P.underlying t=some l.desc)(h:off<xs.size):(part t xs off).run P w = .ok (xs.getD off undef) w:=by
 have:(isAgg t).run P w = .ok false w:=by
  cases l<;>simp[isAgg,run_underlying hu,Leaf.desc]
 simp[part,this,Array.getD,h]
theorem Zee{P:Program}{T:Tab}(hT:T.ok P){em:Bool}{xs:Array Value}{w:World}:∀(fs:List Field) (off:Nat) (ls:List Leaf),flatLs T off fs=some ls->xs.size=off+ls.length->
  (∀(i:Nat) (l:Leaf),ls[i]? = some l->l.has (xs.getD (off+i) undef))->
  ∀f∈fs,f.name≠ "_"∧∃a,(part f.type xs f.offset).run P w = .ok a w∧(Instr.checkKey em 9999 f.type a).run P w = .ok () w
 | [],off,ls,h,hs,hl=>fun f hf=>by simp at hf
 |f::fs,off,ls,h,hs,hl=>by
  unfold flatLs at h
  split at h
  ·rename_i ty h1 h2 hty
   split at h
   ·rename_i l ls' hl1 hl2;cases h;have ho:=qg h1;have hn:f.name≠ "_":=by simpa using h2
    obtain⟨_,hu,_⟩:=hT _ _ hty;rw[Zr4 hl1]at hu;have hlt:off<xs.size:=by simp at hs;omega
    have h0:=hl 0 l (by simp);have p1:=Zu0 (w:=w) hu hlt;have p2:=MapKept.run_checkKey (w:=w) hu (Z77 h0) em 9998;have ih:=Zee hT (em:=em) (xs:=xs) (w:=w) fs (off+1) ls' hl2 (by simp at hs;omega) (fun i l' e=>by have:=hl (i+1) l' (by simpa using e);simpa[Nat.add_assoc,Nat.add_comm 1 i]using this);intro g hg;rcases qk.1 hg with rfl|hg
    ·exact⟨hn,_,by rw[ho];exact p1,by simpa using p2⟩
    exact ih g hg
   cases h
  cases h
theorem Zpd{l:Leaf}{x y:Value}(hx:l.has x)(hy:l.has y):Leaf.eqv x y=true↔x=y:=by
 cases l with
 |int k=>obtain⟨a,rfl⟩:=hx;obtain⟨b,rfl⟩:=hy;simp[Leaf.eqv]
 |str=>obtain⟨a,rfl⟩:=hx;obtain⟨b,rfl⟩:=hy;simp[Leaf.eqv,MapKept.bytes_beq]
 |bool=>obtain⟨a,rfl⟩:=hx;obtain⟨b,rfl⟩:=hy;simp[Leaf.eqv]
theorem Zdy:∀ {ls:List Leaf} {xs ys:List Value},xs.length=ls.length->ys.length=ls.length->(∀(i:Nat) (l:Leaf),ls[i]? = some l->l.has (xs.getD i undef)∧l.has (ys.getD i undef))->(eqvs xs ys=true↔xs=ys)
 | [],[],[],_,_,_=>by simp[eqvs]
 |l::ls,x::xs,y::ys,h1,h2,h=>by
  have h0:=h 0 l (by simp);have ih:=Zdy (ls:=ls) (xs:=xs) (ys:=ys) (by simpa using h1) (by simpa using h2) (fun i l' e=>by simpa using h (i+1) l' (by simpa using e));simp only[eqvs,qc,ih,List.cons.injEq];rw[Zpd (by simpa using h0.1) (by simpa using h0.2)]
 |_::_,[],_,h1,_,_=>by simp at h1
 | [],_::_,_,h1,_,_=>by simp at h1
 |_::_,_::_,[],_,h2,_=>by simp at h2
 | [],[],_::_,_,h2,_=>by simp at h2
theorem Znr{ls:List Leaf}{v v':Value}(h:(KK.agg ls).has v)(h':(KK.agg ls).has v'):∃xs ys:Array Value,v = .agg xs∧v' = .agg ys∧xs.size=ls.length∧ys.size=ls.length∧(∀(i:Nat) (l:Leaf),ls[i]? = some l->l.has (xs.getD i undef)∧l.has (ys.getD i undef))∧(eqvs xs.toList ys.toList=true↔v=v'):=by
 obtain⟨xs,rfl,hs,hx⟩:=h;obtain⟨ys,rfl,hs',hy⟩:=h';refine⟨xs,ys,rfl,rfl,hs,hs',fun i l e=>⟨hx i l e,hy i l e⟩,?_⟩;rw[Zdy (ls:=ls) (by simpa using hs) (by simpa using hs') (fun i l e=>by simpa[qb,List.getD]using qa (hx i l e) (hy i l e))];constructor
 ·intro h;rw[Array.toList_inj.1 h]
 intro h;cases h;rfl
theorem Ze4{P:Program}{kt:TypeId}{ls:List Leaf}(hE:EqOK P kt ls){v:Value}(hv:(KK.agg ls).has v){w:World}:∀(es:List MapEntry) (k:Nat),(∀e∈es,(KK.agg ls).has e.key)->∃r,(Instr.findAsking kt v es k).run P w = .ok r w∧
  ((r=none∧∀(j:Nat) (e:MapEntry),es[j]? = some e->e.key≠v)∨∃(i:Nat) (e:MapEntry),r=some (k+i,e.val)∧es[i]? = some e∧e.key=v∧∀(j:Nat) (e':MapEntry),j<i->es[j]? = some e'->e'.key≠v)
 | [],k,_=>⟨none,by simp[Instr.findAsking],.inl ⟨rfl,fun j e h=>by simp at h⟩⟩
 |e::es,k,h=>by
  obtain⟨xs,ys,e1,e2,hs,hs',hl,hiff⟩:=Znr hv (h e (by simp));have hrun:(Op.equal kt v e.key).run P w = .ok (eqvs xs.toList ys.toList) w:=by rw[e1,e2];exact hE.2 xs ys w hs hs' hl
  cases hb:eqvs xs.toList ys.toList with
  |true=>
   rw[hb]at hrun;exact⟨some (k,e.val),by simp[Instr.findAsking,hrun],.inr ⟨0,e,rfl,by simp,(hiff.1 hb).symm,fun j e' hj=>absurd hj (by omega)⟩⟩
  |false=>
   rw[hb]at hrun;have hne:e.key≠v:=fun q=>by have:=hiff.2 q.symm;rw[hb]at this;cases this
   obtain⟨r,hr,hc⟩:=Ze4 hE hv (w:=w) es (k+1) (fun x hx=>h x (by simp[hx]));refine⟨r,by simp[Instr.findAsking,hrun,hr],?_⟩;rcases hc with⟨h1,h2⟩|⟨i,e',h1,h2,h3,h4⟩
   ·refine .inl ⟨h1,fun j e' hj=>?_⟩;cases j with
    |zero=>simp at hj;subst hj;exact hne
    |succ j=>exact h2 j e' (by simpa using hj)
   refine .inr ⟨i+1,e',by rw[h1];congr 2;omega,by simpa using h2,h3,fun j e2 hj he=>?_⟩;cases j with
   |zero=>simp at he;subst he;exact hne
   |succ j=>exact h4 j e2 (by omega) (by simpa using he)
theorem Zu5{ls:List Leaf}{v:Value}(h:(KK.agg ls).has v):Instr.sameBits 10000 v v=true:=by
 obtain⟨xs,rfl,hs,hx⟩:=h;have:∀(l:List Value) (ms:List Leaf),l.length=ms.length->(∀(i:Nat) (m:Leaf),ms[i]? = some m->m.has (l.getD i undef))->((l.zip l).all fun x=>Instr.sameBits 9999 x.1 x.2)=true:=by
  intro l
  induction l with
  |nil=>intro ms _ _;rfl
  |cons x l ih=>
   intro ms hl hm;cases ms with
   |nil=>simp at hl
   |cons m ms=>
    have h0:=hm 0 m (by simp);simp only[List.zip_cons_cons,List.all_cons,qc];exact⟨Zhl (by simpa using h0),ih ms (by simpa using hl) (fun i m' e=>by simpa using hm (i+1) m' (by simpa using e))⟩
 simp only[Instr.sameBits,beq_self_eq_true,Bool.true_and];exact this xs.toList ls (by simpa using hs) (fun i m e=>by simpa[qb,List.getD]using hx i m e)
theorem KeyRuns.flat{P:Program}{T:Tab}(hT:T.ok P){kt:TypeId}{fs:Array Field}{ls:List Leaf}(hu:P.underlying kt=some (.struct fs))(hf:flatLs T 0 fs.toList=some ls)(hE:EqOK P kt ls):KeyRuns P kt (.agg ls):=by
 refine⟨fun em v w hv=>?_,fun v es w hv hes=>?_,fun v hv=>Zu5 hv⟩
 ·obtain⟨xs,rfl,hs,hx⟩:=hv;rw[show(10000:Nat)=9999+1 from rfl,Instr.checkKey];simp only[Sem.run_bind,run_underlying hu,Result.andThen_ok];rw[<-Array.forIn_toList];have deep:=Zee hT (em:=em) (xs:=xs) (w:=w) fs.toList 0 ls hf (by simpa using hs) (fun i l e=>by simpa using hx i l e);clear hf;generalize fs.toList=L at deep
  induction L with
  |nil=>simp
  |cons f L ih=>
   obtain⟨hn,a,p1,p2⟩:=deep f (by simp);simp only[List.forIn_cons,Sem.run_bind,hn,Q8,not_false_eq_true,if_true,Result.andThen_ok,p1,p2,Sem.run_pure];exact ih (fun y hy=>deep y (by simp[hy]))
 cases es with
 |nil=>exact⟨none,by simp[Instr.findKey,run_underlying hu,Result.andThen,Instr.findNow],.inl ⟨rfl,fun j e h=>by simp at h⟩⟩
 |cons e es=>
  obtain⟨r,hr,hc⟩:=Ze4 hE hv (w:=w) (e::es) 0 hes;refine⟨r,?_,by simpa using hc⟩;have hnow:Instr.findNow (.struct fs) v (e::es) 0=none:=by simp[Instr.findNow,Instr.sameNow]
  simp only[Instr.findKey,Sem.run_bind,run_underlying hu,Result.andThen_ok,hnow];exact hr
def leavesEq:List Leaf->List Leaf->Bool
 | [],[]=>true
 | .int k::a,.int k'::b=>ikEq k k'&&leavesEq a b
 | .str::a,.str::b=>leavesEq a b
 | .bool::a,.bool::b=>leavesEq a b
 |_,_=>false
theorem Z5k:∀ {a b:List Leaf},leavesEq a b=true->a=b
 | [],[],_=>rfl
 | .int k::a,.int k'::b,h=>by simp only[leavesEq,qc]at h;rw[Z3f h.1,Z5k h.2]
 | .str::a,.str::b,h=>by simp only[leavesEq]at h;rw[Z5k h]
 | .bool::a,.bool::b,h=>by simp only[leavesEq]at h;rw[Z5k h]
 | [],_::_,h=>by simp[leavesEq]at h
 | .int _::_,[],h=>by simp[leavesEq]at h
 | .str::_,[],h=>by simp[leavesEq]at h
 | .bool::_,[],h=>by simp[leavesEq]at h
 | .int _::_,.str::_,h=>by simp[leavesEq]at h
 | .int _::_,.bool::_,h=>by simp[leavesEq]at h
 | .str::_,.int _::_,h=>by simp[leavesEq]at h
 | .str::_,.bool::_,h=>by simp[leavesEq]at h
 | .bool::_,.int _::_,h=>by simp[leavesEq]at h
 | .bool::_,.str::_,h=>by simp[leavesEq]at h
def kkOf(T:Tab)(kt:TypeId):Option KK:=
 match T kt with
 |some ty=>match ty.und with
  | .int k=>some (.one (.int k))
  | .string=>some (.one .str)
  | .bool=>some (.one .bool)
  | .struct fs=>match flatLs T 0 fs.toList with
   |some ls=>match leavesEq ls ty.leaves,ls with
    |true,_::_=>some (.agg ty.leaves)
    |_,_=>none
   |none=>none
  |_=>none
 |none=>none
theorem Zr1{P:Program}{T:Tab}(hT:T.ok P){kt:TypeId}{kk:KK}(h:kkOf T kt=some kk):KeyRuns P kt kk:=by
 unfold kkOf at h
 split at h
 ·rename_i ty hty;obtain⟨_,hu,hle⟩:=hT _ _ hty
  split at h
  ·rename_i k e;cases h;rw[e]at hu;exact .leaf (l:=.int k) hu
  ·rename_i e;cases h;rw[e]at hu;exact .leaf (l:=.str) hu
  ·rename_i e;cases h;rw[e]at hu;exact .leaf (l:=.bool) hu
  ·rename_i fs e;rw[e]at hu
   split at h
   ·rename_i ls hls
    split at h
    ·rename_i l ls' heq;cases h;have:=Z5k heq;rcases hle with hle|hle
     ·rw[hle]at this;cases this
     exact .flat hT hu (this▸hls) hle
    cases h
   cases h
  cases h
 cases h
def mapOf(T:Tab)(m:TypeId):Option (KK×Value):=
 match T m with
 |some ty=>match ty.und with
  | .map kt et=>match kkOf T kt,T et with
   |some kk,some ety=>match ety.info.zero with
    |some z=>some (kk,z)
    |none=>none
   |_,_=>none
  |_=>none
 |none=>none
theorem Za8{P:Program}{T:Tab}(hT:T.ok P){m:TypeId}{kk:KK}{z:Value}(h:mapOf T m=some (kk,z)):∃kt et i,P.underlying m=some (.map kt et)∧KeyRuns P kt kk∧P.info? et=some i∧i.zero=some z:=by
 unfold mapOf at h
 split at h
 ·rename_i ty hty;obtain⟨_,hu,_⟩:=hT _ _ hty
  split at h
  ·rename_i kt et e;rw[e]at hu
   split at h
   ·rename_i kk' ety h1 h2;obtain⟨hi,_,_⟩:=hT _ _ h2
    split at h
    ·rename_i z' hz;cases h;exact⟨kt,et,_,hu,Zr1 hT h1,hi,hz⟩
    cases h
   cases h
  cases h
 cases h
theorem MapWf.push{es:Array MapEntry}{clock:Nat}{k v:Value}(h:MapWf es clock)(hno:∀(j:Nat) (e:MapEntry),es[j]? = some e->e.key≠k):MapWf (es.push { key:=k,val:=v,born:=clock }) (clock+1):=by
 have get:∀(i:Nat) (e:MapEntry),(es.push { key:=k,val:=v,born:=clock })[i]? = some e->(i=es.size∧e ={ key:=k,val:=v,born:=clock })∨es[i]? = some e:=by
  intro i e hi;rw[Array.getElem?_push]at hi
  split at hi
  ·rename_i e';cases hi;exact .inl ⟨e',rfl⟩
  exact .inr hi
 refine⟨fun i e hi=>?_,fun i j e e' hi hj hb=>?_,fun i j e e' hi hj hb=>?_⟩
 ·rcases get i e hi with⟨_,rfl⟩|h1
  ·exact Nat.lt_succ_self _
  exact Nat.lt_succ_of_lt (h.born i e h1)
 ·rcases get i e hi with⟨h1,rfl⟩|h1<;>rcases get j e' hj with⟨h2,rfl⟩|h2
  ·rw[h1,h2]
  ·have:=h.born j e' h2;simp at hb;omega
  ·have:=h.born i e h1;simp at hb;omega
  exact h.inj i j e e' h1 h2 hb
 rcases get i e hi with⟨h1,rfl⟩|h1<;>rcases get j e' hj with⟨h2,rfl⟩|h2
 ·rw[h1,h2]
 ·exact absurd hb.symm (hno j e' h2)
 ·exact absurd hb (hno i e h1)
 exact h.key i j e e' h1 h2 hb
theorem MapWf.put{es:Array MapEntry}{clock j:Nat}{e:MapEntry}{k v:Value}(h:MapWf es clock)(hj:es[j]? = some e)(hk:e.key=k):MapWf (es.modify j fun e=>{ e with key:=k,val:=v }) clock:=by
 have get:∀(i:Nat) (x:MapEntry),(es.modify j fun e=>{ e with key:=k,val:=v })[i]? = some x->∃y,es[i]? = some y∧y.key=x.key∧y.born=x.born:=by
  intro i x hi;rw[qP]at hi
  split at hi
  ·rename_i e';subst e';rw[hj]at hi;cases hi;exact⟨e,hj,hk,rfl⟩
  exact⟨x,hi,rfl,rfl⟩
 refine⟨fun i x hi=>?_,fun i i' x x' hi hi' hb=>?_,fun i i' x x' hi hi' hb=>?_⟩
 ·obtain⟨y,h1,_,h3⟩:=get i x hi;rw[<-h3];exact h.born i y h1
 ·obtain⟨y,h1,_,h3⟩:=get i x hi;obtain⟨y',h1',_,h3'⟩:=get i' x' hi';exact h.inj i i' y y' h1 h1' (by rw[h3,h3',hb])
 obtain⟨y,h1,h2,_⟩:=get i x hi;obtain⟨y',h1',h2',_⟩:=get i' x' hi';exact h.key i i' y y' h1 h1' (by rw[h2,h2',hb])
theorem Z3b{es:Array MapEntry}{j i:Nat}:(es.eraseIdxIfInBounds j)[i]? = if j<es.size then(if i<j then es[i]? else es[i+1]?)else es[i]?:=by
 unfold Array.eraseIdxIfInBounds;split
 ·rename_i h;rw[Array.getElem?_eraseIdx]
 rfl
theorem MapWf.erase{es:Array MapEntry}{clock j:Nat}(h:MapWf es clock):MapWf (es.eraseIdxIfInBounds j) clock:=by
 have get:∀(i:Nat) (x:MapEntry),(es.eraseIdxIfInBounds j)[i]? = some x->∃i',es[i']? = some x∧((j<es.size∧(i<j->i'=i)∧(¬i<j->i'=i+1))∨(¬j<es.size∧i'=i)):=by
  intro i x hi;rw[Z3b]at hi
  split at hi
  ·rename_i h1
   split at hi
   ·rename_i h2;exact⟨i,hi,.inl ⟨h1,fun _=>rfl,fun h=>absurd h2 h⟩⟩
   rename_i h2;exact⟨i+1,hi,.inl ⟨h1,fun h=>absurd h h2,fun _=>rfl⟩⟩
  rename_i h1;exact⟨i,hi,.inr ⟨h1,rfl⟩⟩
 refine⟨fun i x hi=>?_,fun i i' x x' hi hi' hb=>?_,fun i i' x x' hi hi' hb=>?_⟩
 ·obtain⟨_,h1,_⟩:=get i x hi;exact h.born _ x h1
 ·obtain⟨a,h1,h2⟩:=get i x hi;obtain⟨b,h3,h4⟩:=get i' x' hi';have:=h.inj a b x x' h1 h3 hb;omega
 obtain⟨a,h1,h2⟩:=get i x hi;obtain⟨b,h3,h4⟩:=get i' x' hi';have:=h.key a b x x' h1 h3 hb;omega
structure MapAt (w:World) (M:Nat->Prop) (kk:KK) (look:Value->Option PV) (es:Array MapEntry) (clock:Nat):Prop where
 keys:KeysOf kk es clock
 som:∀k p,kk.has k->look k=some p->∃(i:Nat) (e:MapEntry),es[i]? = some e∧e.key=k∧PR w M p e.val∧∀(j:Nat) (e':MapEntry),j<i->es[j]? = some e'->e'.key≠k
 non:∀k,kk.has k->look k=none->∀(j:Nat) (e:MapEntry),es[j]? = some e->e.key≠k
theorem MapAt.choose{w:World}{M:Nat->Prop}{kk:KK}{look:Value->Option PV}{es:Array MapEntry}{clock:Nat}(h:MapAt w M kk look es clock):∃(em:Value->Nat) (ev:Value->Value),(∀k p,kk.has k->look k=some p->(∃e:MapEntry,es[em k]? = some e∧e.key=k∧e.val=ev k)∧∀(j:Nat) (e:MapEntry),j<em k->es[j]? = some e->e.key≠k)∧
  (∀k p,kk.has k->look k=some p->PR w M p (ev k)):=by
 have:∀k,∃(i:Nat) (v:Value),∀p,kk.has k->look k=some p->(∃e:MapEntry,es[i]? = some e∧e.key=k∧e.val=v)∧(∀(j:Nat) (e:MapEntry),j<i->es[j]? = some e->e.key≠k)∧PR w M p v:=by
  intro k
  by_cases hk:kk.has k
  ·cases hl:look k with
   |none=>exact⟨0,undef,fun p _ e=>by cases e⟩
   |some p=>
    obtain⟨i,e,h1,h2,h3,h4⟩:=h.som k p hk hl;exact⟨i,e.val,fun q _ e'=>by cases e';exact⟨⟨e,h1,h2,rfl⟩,h4,h3⟩⟩
  exact⟨0,undef,fun p h'=>absurd h' hk⟩
 exact⟨fun k=>(this k).choose,fun k=>(this k).choose_spec.choose,fun k p h1 h2=>⟨((this k).choose_spec.choose_spec p h1 h2).1,((this k).choose_spec.choose_spec p h1 h2).2.1⟩,fun k p h1 h2=>((this k).choose_spec.choose_spec p h1 h2).2.2⟩
theorem MapAt.pr{w:World}{M:Nat->Prop}{kk:KK}{look:Value->Option PV}{es:Array MapEntry}{r clock:Nat}(h:MapAt w M kk look es clock)(hr:w.heap[r]? = some (.map es clock))(hM:¬M r):PR w M (.map kk look) (.map (some r)):=by
 obtain⟨em,ev,h1,h2⟩:=h.choose;exact .map kk look r es clock em ev hr hM h.keys h1 h2 h.non
theorem MapAt.or{P:Program}{w:World}{St M:Nat->Prop}{σ:Sig}{kk:KK}{look:Value->Option PV}{es:Array MapEntry}{r clock:Nat}(h:MapAt w M kk look es clock)(hr:w.heap[r]? = some (.map es clock)):OR P w St M σ (.map kk look) ⟨.map (some r),some r⟩:=by
 obtain⟨em,ev,h1,h2⟩:=h.choose;exact .map kk look r es clock em ev hr h.keys h1 h2 h.non
theorem pr_map{w:World}{M:Nat->Prop}{kk:KK}{look:Value->Option PV}{v:Value}(h:PR w M (.map kk look) v):∃r es clock,v = .map (some r)∧w.heap[r]? = some (.map es clock)∧¬M r∧MapAt w M kk look es clock:=by
 cases h with
 |map _ _ r es clock em ev hr hM hk hf hh hn=>
  exact⟨r,es,clock,rfl,hr,hM,hk,fun k p h1 h2=>by
   obtain⟨⟨e,h3,h4,h5⟩,h6⟩:=hf k p h1 h2;exact⟨em k,e,h3,h4,h5▸hh k p h1 h2,h6⟩,hn⟩
theorem or_map{P:Program}{w:World}{St M:Nat->Prop}{σ:Sig}{kk:KK}{look:Value->Option PV}{loc:Loc}(h:OR P w St M σ (.map kk look) loc):∃r es clock,loc=⟨.map (some r),some r⟩∧w.heap[r]? = some (.map es clock)∧MapAt w M kk look es clock:=by
 cases h with
 |map _ _ r es clock em ev hr hk hf hh hn=>
  exact⟨r,es,clock,rfl,hr,hk,fun k p h1 h2=>by
   obtain⟨⟨e,h3,h4,h5⟩,h6⟩:=hf k p h1 h2;exact⟨em k,e,h3,h4,h5▸hh k p h1 h2,h6⟩,hn⟩
section steps
variable {P:Program} {T:Tab} {o:Oper} {ev:Operand->AV} {ob:Nat->Option AObj} {K:AV->Upd->Prop}
theorem Zw3{t:TypeId}{d:Nat}{kk:KK}(ho:o.op = .makeMap t none):Step P o ev ob [(d,.map kk fun _=>none)] (.ref d):=by
 refine⟨?_,fun l hl=>.inr (by simp[refs]at hl;subst hl;simp[getO]),fun i obj e' l hl=>by rw[Z04]at e';split at e'<;>cases e';simp[refsO]at hl,fun l obj e' ⟨x,hx,hl⟩=>by simp[ho,Op.operands]at hx⟩;intro St M0 σ w ρ hi ha hobj hf;have hfr:σ d=none:=by
  rcases hf d (by simp[getO])with⟨x,hx,hl⟩|⟨h,_⟩
  ·simp[ho,Op.operands]at hx
  ·exact h
 unfold OpRuns;rw[show(execOp ρ o).run P w = .ok (.value (.map (some w.heap.size))) (w.alloc (.map #[] 0))from by
  simp only[execOp,ho];rfl]
 refine⟨_,Post.new (loc:=⟨.map (some w.heap.size),some w.heap.size⟩) hi hfr (fun b hb=>by cases hb;rfl) (by simp) ?_ (.ref _ _ fun lc h=>by simp[upd1]at h;rw[<-h])⟩;exact MapAt.or (es:=#[]) ⟨⟨fun i e h=>by simp at h,⟨fun i e h=>by simp at h,fun i j e e' h=>by simp at h,fun i j e e' h=>by simp at h⟩⟩,fun k p _ h=>(by cases h),fun k _ _ j e h=>by simp at h⟩ (Z0g w _)
def MapArg(ob:Nat->Option AObj)(x:AV)(kk:KK)(look:Value->Option PV):Prop:=
 x = .pv (.map kk look)∨∃l,x = .ref l∧ob l=some (.map kk look)
theorem MapArg.at{St M0:Nat->Prop}{σ:Sig}{w:World}{x:AV}{vx:Value}{kk:KK}{look:Value->Option PV}(h:MapArg ob x kk look)(ha:AR P w St (Mof M0 σ) σ x vx)(hobj:∀l∈refs x,∀obj,ob l=some obj->At P w St M0 σ l obj) :
  ∃r es clock,vx = .map (some r)∧w.heap[r]? = some (.map es clock)∧MapAt w (Mof M0 σ) kk look es clock:=by
 rcases h with rfl|⟨l,rfl,hob⟩
 ·obtain⟨r,es,clock,h1,h2,_,h3⟩:=pr_map (arg_pv ha);exact⟨r,es,clock,h1,h2,h3⟩
 obtain⟨loc,hl,hor⟩:=hobj l (by simp[refs]) _ hob;obtain⟨r,es,clock,rfl,h2,h3⟩:=or_map hor;exact⟨r,es,clock,Z1w ha hl,h2,h3⟩
def KeyArg(kk:KK)(y:AV)(k:Value):Prop:=
 match kk with
 | .one l=>y = .pv (.val k)∧l.has k
 | .agg ls=>∃vs:List Value,y = .pv (.agg (vs.map .val))∧k = .agg ⟨vs⟩∧vs.length=ls.length∧∀(i:Nat) (l:Leaf),ls[i]? = some l->l.has (vs.getD i undef)
theorem KeyArg.val{St M:Nat->Prop}{σ:Sig}{w:World}{y:AV}{vy k:Value}{kk:KK}(h:KeyArg kk y k)(ha:AR P w St M σ y vy):vy=k∧kk.has k:=by
 cases kk with
 |one l=>obtain⟨rfl,h2⟩:=h;exact⟨pr_val (arg_pv ha),h2⟩
 |agg ls=>
  obtain⟨vs,rfl,rfl,hl,hh⟩:=h;refine⟨?_,⟨⟨vs⟩,rfl,by simpa using hl,fun i l e=>by simpa[qb,List.getD]using hh i l e⟩⟩;have hp:=arg_pv ha;cases hp with
  |agg cs us hs h h1=>
   congr 1;apply Array.ext
   ·simpa using hs
   intro i hi hi';have hi2:i<vs.length:=by simpa using hi'
   have:=h i (.val vs[i]) (by simp[hi2]);have:=pr_val this;simpa[Array.getD,hi]using this
def lookRes(ok:Bool)(z:Value)(r:Option PV):PV:=
 match ok,r with
 |false,some p=>p
 |false,none=>ofConst z
 |true,some p=>.tup [p,.val (.bool true)]
 |true,none=>.tup [ofConst z,.val (.bool false)]
theorem Zw0{t:TypeId}{x y:Operand}{ok:Bool}{kk:KK}{z k:Value}{look:Value->Option PV}(hT:T.ok P)(ho:o.op = .lookup t x y ok)(ht:mapOf T t=some (kk,z))(hx:MapArg ob (ev x) kk look)(hy:KeyArg kk (ev y) k) :
  Step P o ev ob [] (.pv (lookRes ok z (look k))):=by
 have hxm:x∈o.op.operands:=by simp[ho,Op.operands]
 have hym:y∈o.op.operands:=by simp[ho,Op.operands]
 refine .of_pure (fun l hl=>by simp[refs]at hl) fun St M0 σ w ρ hi ha hobj=>?_
 obtain⟨r,es,clock,hv,hr,hm⟩:=hx.at (ha x hxm) (fun l hl obj e=>hobj x hxm l hl obj e);obtain⟨hvy,hk⟩:=hy.val (ha y hym);obtain⟨kt,et,i,hu,hkr,hie,hz⟩:=Za8 hT ht;obtain⟨fr,hfr,hc⟩:=hkr.find k es.toList w hk (fun e he=>by
  obtain⟨j,hj⟩:=List.getElem?_of_mem he;exact hm.keys.1 j e (by simpa using hj))
 have tupR:∀(p:PV) (v:Value) (b:Bool),PR w (Mof M0 σ) p v->PR w (Mof M0 σ) (.tup [p,.val (.bool b)]) (.tuple #[v,.bool b]):=fun p v b hp=>.tup _ _ rfl (fun i q e=>by
  match i,e with
  |0,e=>simp at e;subst e;exact hp
  |1,e=>simp at e;subst e;exact .val _
  |i+2,e=>simp at e)
 have hcheck:=hkr.check es.isEmpty k w hk;rcases hc with⟨rfl,hno⟩|⟨j,e,rfl,hj,hek,hfirst⟩
 ·have hl:look k=none:=by
   cases hl:look k with
   |none=>rfl
   |some p=>
    obtain⟨i',e',h1,h2,_,_⟩:=hm.som k p hk hl;exact absurd h2 (hno i' e' (by simpa using h1))
  cases ok with
  |false=>exact⟨z,by simp[execOp,ho,Instr.lookup,hv,hvy,run_underlying hu,MapKept.run_getObj_map hr,hcheck,hfr,zeroValue,typeInfo,hie,hz,Result.andThen],.pv _ _ (by rw[hl];exact Z3l z)⟩
  |true=>exact⟨.tuple #[z,.bool false],by simp[execOp,ho,Instr.lookup,hv,hvy,run_underlying hu,MapKept.run_getObj_map hr,hcheck,hfr,zeroValue,typeInfo,hie,hz,Result.andThen],.pv _ _ (by rw[hl];exact tupR _ _ _ (Z3l z))⟩
 ·have hj':es[j]? = some e:=by simpa using hj
  cases hl:look k with
  |none=>exact absurd hek (hm.non k hk hl j e hj')
  |some p=>
   obtain⟨i',e',h1,h2,h3,h4⟩:=hm.som k p hk hl;have hij:i'=j:=by
    rcases Nat.lt_trichotomy i' j with h|h|h
    ·exact absurd h2 (hfirst i' e' h (by simpa using h1))
    ·exact h
    ·exact absurd hek (h4 j e h hj')
   subst hij;rw[hj']at h1;cases h1;cases ok with
   |false=>exact⟨e.val,by simp[execOp,ho,Instr.lookup,hv,hvy,run_underlying hu,MapKept.run_getObj_map hr,hcheck,hfr,Result.andThen],.pv _ _ h3⟩
   |true=>exact⟨.tuple #[e.val,.bool true],by simp[execOp,ho,Instr.lookup,hv,hvy,run_underlying hu,MapKept.run_getObj_map hr,hcheck,hfr,Result.andThen],.pv _ _ (tupR _ _ _ h3)⟩
open Classical in
/-- the map with one more entry -/
noncomputable def lookDel(look:Value->Option PV)(k:Value):Value->Option PV:=fun k'=>if k'=k then none else look k'
open Classical in
noncomputable def lookPut(look:Value->Option PV)(k:Value)(p:PV):Value->Option PV:=fun k'=>if k'=k then some p else look k'
theorem Zw5{t:TypeId}{x y q:Operand}{l:Nat}{kk:KK}{z k:Value}{look:Value->Option PV}{p:PV}(hT:T.ok P)(ho:o.op = .mapUpdate t x y q)(ht:mapOf T t=some (kk,z))(hx:ev x = .ref l)(hob:ob l=some (.map kk look))(hy:KeyArg kk (ev y) k)(hq:ev q = .pv p) :
  Step P o ev ob [(l,.map kk (lookPut look k p))] .junk:=by
 have hxm:x∈o.op.operands:=by simp[ho,Op.operands]
 have hym:y∈o.op.operands:=by simp[ho,Op.operands]
 have hqm:q∈o.op.operands:=by simp[ho,Op.operands]
 refine⟨?_,fun l hl=>by simp[refs]at hl,fun i obj e' k' hl=>by rw[Z04]at e';split at e'<;>cases e';simp[refsO]at hl,fun k' obj e' _=>?_⟩
 ·intro St M0 σ w ρ hi ha hobj hf;obtain⟨loc,hl,hor⟩:=hobj x hxm l (by simp[hx,refs]) _ hob;obtain⟨r,es,clock,rfl,hr,hm⟩:=or_map hor;have hv:=Z1w (hx▸ha x hxm) hl;obtain⟨hvy,hk⟩:=hy.val (ha y hym);have hp:=arg_pv (hq▸ha q hqm);obtain⟨kt,et,i,hu,hkr,hie,hz⟩:=Za8 hT ht;obtain⟨fr,hfr,hc⟩:=hkr.find k es.toList w hk (fun e he=>by
   obtain⟨j,hj⟩:=List.getElem?_of_mem he;exact hm.keys.1 j e (by simpa using hj))
  have hcheck:=hkr.check false k w hk;have fin:∀(es':Array MapEntry) (clock':Nat),(execOp ρ o).run P w = .ok .skip { w with heap:=w.heap.setIfInBounds r (.map es' clock') }->MapAt w (Mof M0 σ) kk (lookPut look k p) es' clock'->OpRuns P o ρ w (fun v' w'=>∃σ',Post P St M0 σ w [(l,.map kk (lookPut look k p))] .junk σ' v' w'):=by
   intro es' clock' hrun hm';unfold OpRuns;rw[hrun];have hlt:r<w.heap.size:=Z0e hr;have hx2:FExt (fun b=>b=r) w { w with heap:=w.heap.setIfInBounds r (.map es' clock') }:=⟨rfl,rfl,rfl,by simp,fun b hb hne=>by simp[Ne.symm hne],qL _⟩;have hsame:=Z31 (M0:=M0) hl rfl hx2;refine⟨σ,Post.upd hi hl rfl hx2 (by simp) ?_ (.junk _)⟩;refine MapAt.or (es:=es') (clock:=clock') ⟨hm'.keys,fun k' p' h1 h2=>?_,hm'.non⟩ (by simp[hlt]);obtain⟨i',e',h3,h4,h5,h6⟩:=hm'.som k' p' h1 h2;exact⟨i',e',h3,h4,h5.mono hsame (fun _ _ h=>h),h6⟩
  rcases hc with⟨rfl,hno⟩|⟨j,e,rfl,hj,hek,hfirst⟩
  ·refine fin (es.push { key:=k,val:=ρ q,born:=clock }) (clock+1) (by simp[execOp,ho,Instr.mapUpdate,hv,hvy,run_underlying hu,MapKept.run_getObj_map hr,hcheck,hfr,MapKept.run_setObj_map _ hr,Result.andThen]) ⟨⟨fun i' e' h=>?_,hm.keys.2.push fun j' e' h=>hno j' e' (by simpa using h)⟩,fun k' p' h1 h2=>?_,fun k' h1 h2 j' e' h3=>?_⟩
   ·rw[Array.getElem?_push]at h
    split at h
    ·cases h;exact hk
    ·exact hm.keys.1 i' e' h
   ·unfold lookPut at h2
    split at h2
    ·rename_i ek;cases h2;subst ek;refine⟨es.size,{ key:=k',val:=ρ q,born:=clock },by simp,rfl,hp,fun j' e' hj' h3=>?_⟩;rw[Array.getElem?_push,qJ (by omega)]at h3;exact hno j' e' (by simpa using h3)
    ·obtain⟨i',e',h3,h4,h5,h6⟩:=hm.som k' p' h1 h2;have hlt:i'<es.size:=(Array.getElem?_eq_some_iff.1 h3).1;refine⟨i',e',by rw[Array.getElem?_push,qJ (by omega)];exact h3,h4,h5,fun j' e2 hj' h7=>?_⟩;rw[Array.getElem?_push,qJ (by omega)]at h7;exact h6 j' e2 hj' h7
   ·unfold lookPut at h2
    split at h2
    ·cases h2
    ·rename_i ne;rw[Array.getElem?_push]at h3
     split at h3
     ·cases h3;exact fun h=>ne h.symm
     ·exact hm.non k' h1 h2 j' e' h3
  ·have hj':es[j]? = some e:=by simpa using hj
   have hjl:j<es.size:=(Array.getElem?_eq_some_iff.1 hj').1;have hks:(Instr.keyThatStays e.key k).run P w = .ok k w:=by
    rw[hek];simp[Instr.keyThatStays,hkr.stays k hk]
   have hks':(Instr.keyThatStays (((es[j]?).map (·.key)).getD k) k).run P w = .ok k w:=by rw[hj'];exact hks
   refine fin (es.modify j fun e=>{ e with key:=k,val:=ρ q }) clock (by
    simp only[execOp,ho,Instr.mapUpdate,hv,hvy];simp only[Sem.run_bind,run_underlying hu,MapKept.run_getObj_map hr,hcheck,hfr,Result.andThen,hks',MapKept.run_setObj_map _ hr]
    rfl) ⟨⟨fun i' e' h=>?_,hm.keys.2.put hj' hek⟩,fun k' p' h1 h2=>?_,fun k' h1 h2 j' e' h3=>?_⟩
   ·rw[qP]at h
    split at h
    ·rename_i ej;subst ej;rw[hj']at h;cases h;exact hk
    ·exact hm.keys.1 i' e' h
   ·have keyAt:∀(j':Nat) (e':MapEntry),(es.modify j fun e=>{ e with key:=k,val:=ρ q })[j']? = some e'->∃e0,es[j']? = some e0∧e0.key=e'.key:=by
     intro j' e' h;rw[qP]at h
     split at h
     ·rename_i ej;subst ej;rw[hj']at h;cases h;exact⟨e,hj',hek⟩
     ·exact⟨e',h,rfl⟩
    unfold lookPut at h2
    split at h2
    ·rename_i ek;cases h2;subst ek;refine⟨j,{ e with key:=k',val:=ρ q },by rw[qP,qK rfl,hj'];rfl,rfl,hp,fun j' e' hlt h3=>?_⟩;obtain⟨e0,h4,h5⟩:=keyAt j' e' h3;rw[<-h5];exact hfirst j' e0 hlt (by simpa using h4)
    ·rename_i ne;obtain⟨i',e',h3,h4,h5,h6⟩:=hm.som k' p' h1 h2;have hne:j≠i':=fun h=>by subst h;rw[hj']at h3;cases h3;exact ne (h4.symm.trans hek)
     refine⟨i',e',by rw[qP,qJ hne];exact h3,h4,h5,fun j' e2 hlt h7=>?_⟩;obtain⟨e0,h8,h9⟩:=keyAt j' e2 h7;rw[<-h9];exact h6 j' e0 hlt h8
   ·unfold lookPut at h2
    split at h2
    ·cases h2
    ·rename_i ne;rw[qP]at h3
     split at h3
     ·rename_i ej;subst ej;rw[hj']at h3;cases h3;exact fun h=>ne h.symm
     ·exact hm.non k' h1 h2 j' e' h3
 ·rw[Z04]at e'
  split at e'
  ·rename_i h;subst h;rw[hob];exact .inl rfl
  ·cases e'
theorem Zv6{t t':TypeId}{x y:Operand}{l:Nat}{kk:KK}{z k:Value}{look:Value->Option PV}(hT:T.ok P)(ho:o.op = .call { callee:=.builtin .delete,args:=#[x,y],argTypes:=#[t,t'] })(ht:mapOf T t=some (kk,z))(hx:ev x = .ref l)(hob:ob l=some (.map kk look))(hy:KeyArg kk (ev y) k) :
  Step P o ev ob [(l,.map kk (lookDel look k))] (.pv (.tup [])):=by
 have hxm:x∈o.op.operands:=by simp[ho,Op.operands,Call.operands]
 have hym:y∈o.op.operands:=by simp[ho,Op.operands,Call.operands]
 refine⟨?_,fun l hl=>by simp[refs]at hl,fun i obj e' k' hl=>by rw[Z04]at e';split at e'<;>cases e';simp[refsO]at hl,fun k' obj e' _=>?_⟩
 ·intro St M0 σ w ρ hi ha hobj hf;obtain⟨loc,hl,hor⟩:=hobj x hxm l (by simp[hx,refs]) _ hob;obtain⟨r,es,clock,rfl,hr,hm⟩:=or_map hor;have hv:=Z1w (hx▸ha x hxm) hl;obtain⟨hvy,hk⟩:=hy.val (ha y hym);obtain⟨kt,et,i,hu,hkr,hie,hz⟩:=Za8 hT ht;obtain⟨fr,hfr,hc⟩:=hkr.find k es.toList w hk (fun e he=>by
   obtain⟨j,hj⟩:=List.getElem?_of_mem he;exact hm.keys.1 j e (by simpa using hj))
  have hcheck:=hkr.check es.isEmpty k w hk;have fin:∀(es':Array MapEntry),(execOp ρ o).run P w = .ok (.value (.tuple #[])) { w with heap:=w.heap.setIfInBounds r (.map es' clock) }->MapAt w (Mof M0 σ) kk (lookDel look k) es' clock->OpRuns P o ρ w (fun v' w'=>∃σ',Post P St M0 σ w [(l,.map kk (lookDel look k))] (.pv (.tup [])) σ' v' w'):=by
   intro es' hrun hm';unfold OpRuns;rw[hrun];have hlt:r<w.heap.size:=Z0e hr;have hx2:FExt (fun b=>b=r) w { w with heap:=w.heap.setIfInBounds r (.map es' clock) }:=⟨rfl,rfl,rfl,by simp,fun b hb hne=>by simp[Ne.symm hne],qL _⟩;have hsame:=Z31 (M0:=M0) hl rfl hx2;refine⟨σ,Post.upd hi hl rfl hx2 (by simp) ?_ (.pv _ _ (.tup _ _ rfl fun i p e=>by simp at e))⟩;refine MapAt.or (es:=es') (clock:=clock) ⟨hm'.keys,fun k' p' h1 h2=>?_,hm'.non⟩ (by simp[hlt]);obtain⟨i',e',h3,h4,h5,h6⟩:=hm'.som k' p' h1 h2;exact⟨i',e',h3,h4,h5.mono hsame (fun _ _ h=>h),h6⟩
  rcases hc with⟨rfl,hno⟩|⟨j,e,rfl,hj,hek,hfirst⟩
  ·refine fin es (by simp[execOp,ho,resolve,invoke,builtin,Builtin.delete_,hv,hvy,run_underlying hu,MapKept.run_getObj_map hr,hcheck,hfr,MapKept.run_setObj_map _ hr,Result.andThen]) ⟨hm.keys,fun k' p' h1 h2=>?_,fun k' h1 h2 j' e' h3=>?_⟩
   ·unfold lookDel at h2
    split at h2
    ·cases h2
    ·exact hm.som k' p' h1 h2
   ·unfold lookDel at h2
    split at h2
    ·rename_i ek;subst ek;exact hno j' e' (by simpa using h3)
    ·exact hm.non k' h1 h2 j' e' h3
  ·have hj':es[j]? = some e:=by simpa using hj
   have hjl:j<es.size:=(Array.getElem?_eq_some_iff.1 hj').1;refine fin (es.eraseIdxIfInBounds j) (by simp[execOp,ho,resolve,invoke,builtin,Builtin.delete_,hv,hvy,run_underlying hu,MapKept.run_getObj_map hr,hcheck,hfr,MapKept.run_setObj_map _ hr,Result.andThen]) ⟨⟨fun i' e' h=>?_,hm.keys.2.erase⟩,fun k' p' h1 h2=>?_,fun k' h1 h2 j' e' h3=>?_⟩
   ·rw[Z3b,qK hjl]at h
    split at h
    ·exact hm.keys.1 i' e' h
    ·exact hm.keys.1 (i'+1) e' h
   ·unfold lookDel at h2
    split at h2
    ·cases h2
    ·rename_i ne;obtain⟨i',e',h3,h4,h5,h6⟩:=hm.som k' p' h1 h2;have hne:i'≠j:=fun h=>by subst h;rw[hj']at h3;cases h3;exact ne (h4.symm.trans hek)
     by_cases hlt:i'<j
     ·refine⟨i',e',by rw[Z3b,qK hjl,qK hlt];exact h3,h4,h5,fun j' e2 hj2 h7=>?_⟩;rw[Z3b,qK hjl,qK (by omega)]at h7;exact h6 j' e2 hj2 h7
     ·refine⟨i'-1,e',by rw[Z3b,qK hjl,qJ (by omega),show i'-1+1=i' by omega];exact h3,h4,h5,fun j' e2 hj2 h7=>?_⟩;rw[Z3b,qK hjl]at h7
      split at h7
      ·exact h6 j' e2 (by omega) h7
      ·exact h6 (j'+1) e2 (by omega) h7
   ·rw[Z3b,qK hjl]at h3;have hmem:∃i',es[i']? = some e'∧i'≠j:=by
     split at h3
     ·exact⟨j',h3,by omega⟩
     ·exact⟨j'+1,h3,by omega⟩
    obtain⟨i',h4,h5⟩:=hmem;unfold lookDel at h2
    split at h2
    ·rename_i ek;subst ek;intro hk2;exact h5 (hm.keys.2.key i' j e' e h4 hj' (hk2.trans hek.symm))
    ·exact hm.non k' h1 h2 i' e' h4
 ·rw[Z04]at e'
  split at e'
  ·rename_i h;subst h;rw[hob];exact .inl rfl
  ·cases e'
end steps
section steps
variable {P:Program} {T:Tab} {o:Oper} {ev:Operand->AV} {ob:Nat->Option AObj} {K:AV->Upd->Prop}
def putAt(f:Nat->List PV)(i:Nat)(cs:List PV):Nat->List PV:=fun k=>match Nat.beq k i with
 |true=>cs
 |false=>f k
def updAt(f:Nat->List PV)(i j:Nat)(cs:List PV):Nat->List PV:=putAt f i (splice (f i) j cs)
theorem Zgx{f:Nat->List PV}{i k:Nat}{cs:List PV}:putAt f i cs k=if k=i then cs else f k:=by
 unfold putAt
 by_cases h:k=i
 ·subst h;simp
 rw[show Nat.beq k i=false from by rw[<-Bool.not_eq_true];simpa[Nat.beq_eq]using h];simp[h]
theorem Zwk{t:TypeId}{x y:Operand}{l size n i j:Nat}{f:Nat->List PV}{ty:TY}{p:PV}(hT:T.ok P)(ho:o.op = .store t x y)(ht:T t=some ty)(hx:ev x = .eptr l size i j)(hob:ob l=some (.row size n f))(hy:ev y = .pv p)(h1:pone p=true)
  (hsz:(pcells p).length=ty.info.size) (hi:i<n) (hfit:j+(pcells p).length<=size):Step P o ev ob [(l,.row size n (putAt f i (splice (f i) j (pcells p))))] .junk:=by
 have hxm:x∈o.op.operands:=by simp[ho,Op.operands]
 have hym:y∈o.op.operands:=by simp[ho,Op.operands]
 refine⟨?_,fun l hl=>by simp[refs]at hl,fun i obj e l hl=>by rw[Z04]at e;split at e<;>cases e;simp[refsO]at hl,fun k obj e _=>by
  rw[Z04]at e
  split at e
  ·rename_i h;subst h;exact .inl (by rw[hob];rfl)
  ·cases e⟩
 intro St M0 σ w ρ hin ha hobj _;obtain⟨b,cap,vs,t',hl,hb,hcap,hmax,hs,hf,hq,hone⟩:=at_row (hobj x hxm l (by simp[hx,refs]) _ hob) (by omega);obtain⟨b',hb',hv⟩:=Z8z (hx▸ha x hxm) hl;cases hb';have hp:=arg_pv (hy▸ha y hym);obtain⟨hcs,hcp,hc1⟩:=Z4p hp h1;have hrow:(i+1)*size<=vs.size:=by rw[hs];exact qu _ (by omega)
 rw[Nat.add_mul]at hrow;have hfits:i*size+j+(ρ y).cells.size<=vs.size:=by rw[hcs];omega
 have hr:=Zb0 (w:=w) (off:=i*size+j) hT ht hb (by rw[hcs,hsz]) hfits hc1;unfold OpRuns;rw[show(execOp ρ o).run P w = .ok .skip (w.setRow b (cut vs (i*size+j) (ρ y).cells.toList))from by simp[execOp,ho,hv,Instr.storeAt,Instr.sureAddr,hr]];have hx':=Z5e w b (cut vs (i*size+j) (ρ y).cells.toList);have hsame:=Z31 (M0:=M0) hl rfl hx';have e1:(ρ y).cells.toList.length=(pcells p).length:=by simp[hcs]
 have hfit':i*size+j+(ρ y).cells.toList.length<=vs.size:=by simpa using hfits
 have hfi:j+(pcells p).length<=(f i).length:=by rw[hf i hi];exact hfit
 refine⟨σ,Post.upd hin hl rfl hx' (by simp) (.row _ _ _ b cap _ t' (setRow_heap w b vs _ t' _ hb) hcap hmax (by rw[Z14 hfit',hs]) (fun k hk=>?_) (fun k hk m q e=>?_) (fun k hk=>?_)) (.junk _)⟩
 ·rw[Zgx]
  by_cases h:k=i
  ·subst h;rw[qK rfl,Z29];exact hf k hk
  ·rw[qJ h];exact hf k hk
 ·rw[Zgx]at e;rw[Z1c hfit' _,e1]
  by_cases h:k=i
  ·subst h;rw[qK rfl]at e;rw[Z33 j (f k) _ m hfi]at e
   by_cases hc:j<=m∧m<j+(pcells p).length
   ·rw[qK hc]at e;rw[qK (by omega)];have:=(hcp _ q e).mono hsame (fun _ _ h=>h);rw[show k*size+m-(k*size+j)=m-j from by omega];simpa[qb,List.getD]using this
   ·rw[qJ hc]at e;rw[qJ (by omega)];exact(hq k hk m q e).mono hsame (fun _ _ h=>h)
  ·rw[qJ h]at e;have hm:m<size:=by rw[<-hf k hk];exact(qf.1 e).1
   have hne:¬(i*size+j<=k*size+m∧k*size+m<i*size+j+(pcells p).length):=by
    intro ⟨h2,h3⟩;rcases Nat.lt_or_gt_of_ne h with h4|h4
    ·have:(k+1)*size<=i*size:=qu _ h4;rw[Nat.add_mul]at this;omega
    ·have:(i+1)*size<=k*size:=qu _ h4;rw[Nat.add_mul]at this;omega
   rw[qJ hne];exact(hq k hk m q e).mono hsame (fun _ _ h=>h)
 ·rw[Z14 hfit']at hk;rw[Z1c hfit' _]
  by_cases hc:i*size+j<=k∧k<i*size+j+(ρ y).cells.toList.length
  ·rw[qK hc];have:=hc1 (k-(i*size+j)) (by simp at hc;omega);simpa[qb,List.getD]using this
  ·rw[qJ hc];exact hone k hk
def byteAt(s:ByteArray)(i:Nat):Int:=((s.data.getD i 0).toNat:Int)
theorem Zvl{t:TypeId}{x i:Operand}{s:ByteArray}{k:IntKind}{ix:Int}(hT:T.ok P)(ho:o.op = .index t x i)(hx:ev x = .pv (.val (.string s)))(hi:ev i = .pv (.val (.int k ix)))(hs:isStrT T t=true)(h0:0<=ix)(h1:ix<s.size) :
  Step P o ev ob [] (.pv (.val (.int .u8 (byteAt s ix.toNat)))):=by
 have hxm:x∈o.op.operands:=by simp[ho,Op.operands]
 have him:i∈o.op.operands:=by simp[ho,Op.operands]
 refine .of_pure (fun l hl=>by simp[refs]at hl) fun St M0 σ w ρ hin ha hobj=>?_
 have hv:=pr_val (arg_pv (hx▸ha x hxm));have hq:=pr_val (arg_pv (hi▸ha i him));have hlt:ix.toNat<s.data.size:=by show ix.toNat<s.size;omega
 have hb:s[ix.toNat]? = some s.data[ix.toNat]:=by
  simp[getElem?_def,show ix.toNat<s.size from hlt];rfl
 refine⟨.int .u8 (byteAt s ix.toNat),?_,.pv _ _ (.val _)⟩;have hby:byteAt s ix.toNat=(s.data[ix.toNat].toNat:Int):=by simp only[byteAt,Array.getD,dif_pos hlt];rfl
 rw[hby];simp[execOp,ho,hv,hq,Instr.index,asIntOf,run_underlying (Za0 hT hs),h0,hb]
def ArrOf(T:Tab)(t:TypeId):Bool:=
 match T t with
 |some ty=>match ty.und with
  | .array _ e=>match T e with
   |some ety=>!aggD ety.und&&Nat.beq ety.info.size 1
   |none=>false
  |_=>false
 |none=>false
theorem Zvh{t:TypeId}{x i:Operand}{cs:List PV}{k:IntKind}{ix:Int}{p:PV}(hT:T.ok P)(ho:o.op = .index t x i)(hx:ev x = .pv (.agg cs))(hi:ev i = .pv (.val (.int k ix)))(hs:ArrOf T t=true)(hn:∀ty,T t=some ty->∀n e,ty.und = .array n e->n=cs.length)(h0:0<=ix)(h1:ix<cs.length)
  (hp:∀q,cs[ix.toNat]? = some q->PSub q p):Step P o ev ob [] (.pv p):=by
 have hxm:x∈o.op.operands:=by simp[ho,Op.operands]
 have him:i∈o.op.operands:=by simp[ho,Op.operands]
 refine .of_pure (fun l hl=>by simp[refs]at hl) fun St M0 σ w ρ hin ha hobj=>?_
 obtain⟨vs,hv,hvs,hvp,_⟩:=pr_agg (arg_pv (hx▸ha x hxm));have hq:=pr_val (arg_pv (hi▸ha i him));unfold ArrOf at hs
 split at hs
 ·rename_i ty hty;obtain⟨_,hu,_⟩:=hT _ _ hty
  split at hs
  ·rename_i n e he;have hn:=hn ty hty n e he;rw[he]at hu
   split at hs
   ·rename_i ety hety;obtain⟨hie,hue,_⟩:=hT _ _ hety;simp only[qc,Q2]at hs;have h2:=qg hs.2;have hlt:ix.toNat<cs.length:=by omega
    have hag:(isAgg e).run P w = .ok false w:=by
     cases hd:ety.und<;>simp[hd,aggD]at hs<;>simp[isAgg,run_underlying hue,hd]
    have hix:ix<n:=by rw[hn];exact h1
    refine⟨vs.getD ix.toNat undef,?_,.pv _ _ ((hp _ (List.getElem?_eq_getElem hlt)).to _ _ _ (hvp _ _ (List.getElem?_eq_getElem hlt)))⟩;have hsz:(sizeOf e).run P w = .ok 1 w:=by simp[sizeOf,Z0o hie,h2]
    simp[execOp,ho,hv,hq,Instr.index,asIntOf,run_underlying hu,h0,hix,hsz,part,hag,Array.getD,hvs,hlt]
   cases hs
  cases hs
 cases hs
theorem Zw1{f:FuncId}{caps:Array Operand}(ho:o.op = .makeFunc (.func f) #[] caps):Step P o ev ob [] (.fn f (caps.toList.map ev)):=by
 have hm:∀x∈caps.toList,x∈o.op.operands:=fun x hx=>by simp[ho,Op.operands];simpa using hx
 refine .of_pure (fun l hl=>?_) fun St M0 σ w ρ hin ha hobj=>?_
 ·simp only[refs]at hl;have key:∀(xs:List Operand),(∀x∈xs,x∈o.op.operands)->l∈refs.refsL (xs.map ev)->∃x∈o.op.operands,l∈refs (ev x):=by
   intro xs
   induction xs with
   |nil=>intro _ h;simp[refs.refsL]at h
   |cons y ys ih=>
    intro hy h;simp only[List.map_cons,refs.refsL,qo]at h;rcases h with h|h
    ·exact⟨y,hy y (by simp),h⟩
    exact ih (fun x hx=>hy x (by simp[hx])) h
  exact key _ hm hl
 refine⟨.func (.func f) #[] (caps.map ρ),by simp[execOp,ho,Instr.makeFunc],.fn _ _ _ (by simp) fun i c e=>?_⟩;simp at e;obtain⟨x,hx,rfl⟩:=e;have:=ha x (hm x (by simpa using Array.mem_of_getElem? hx));simpa[qb,hx]using this
theorem Zwe{t:TypeId}{x:Operand}{s:ByteArray}{d:Nat}(hT:T.ok P)(ho:o.op = .range t x)(hx:ev x = .pv (.val (.string s)))(hs:isStrT T t=true):Step P o ev ob [(d,.siter s 0)] (.ref d):=by
 have hxm:x∈o.op.operands:=by simp[ho,Op.operands]
 have hback:∀u∈o.op.operands,refs (ev u) = []:=by
  intro u hu;simp[ho,Op.operands]at hu;subst hu;rw[hx];rfl
 refine⟨?_,fun l hl=>.inr (by simp[refs]at hl;subst hl;simp[getO]),fun i obj e' l hl=>by rw[Z04]at e';split at e'<;>cases e';simp[refsO]at hl,fun l obj e' ⟨x,hx,hl⟩=>by rw[hback x hx]at hl;simp at hl⟩;intro St M0 σ w ρ hi ha hobj hf;have hfr:σ d=none:=by
  rcases hf d (by simp[getO])with⟨x,hx,hl⟩|⟨h,_⟩
  ·rw[hback x hx]at hl;simp at hl
  ·exact h
 have hv:=pr_val (arg_pv (hx▸ha x hxm));unfold OpRuns;rw[show(execOp ρ o).run P w = .ok (.value (.pointer (some ⟨w.heap.size,0,none⟩))) (w.alloc (.stringIter s 0))from by
  simp only[execOp,ho,Instr.range,Sem.run_bind,run_underlying (Za0 hT hs),hv];rfl]
 refine⟨_,Post.new (loc:=⟨.pointer (some ⟨w.heap.size,0,none⟩),some w.heap.size⟩) hi hfr (fun b hb=>by cases hb;rfl) (by simp) (.siter s 0 _ (Z0g w _)) (.ref _ _ fun lc h=>by simp[upd1]at h;rw[<-h])⟩
theorem Zwa{x:Operand}{s:ByteArray}{l pos:Nat}(ho:o.op = .next x true)(hx:ev x = .ref l)(hob:ob l=some (.siter s pos))(hlt:pos<s.size) :
  Step P o ev ob [(l,.siter s (pos+(Utf8.decode s pos).2))] (.pv (.tup [.val (.bool true),.val (.int .i64 pos),.val (.int .i32 (Utf8.decode s pos).1)])):=by
 have hxm:x∈o.op.operands:=by simp[ho,Op.operands]
 refine⟨?_,fun l hl=>by simp[refs]at hl,fun i obj e l hl=>by rw[Z04]at e;split at e<;>cases e;simp[refsO]at hl,fun k obj e _=>by
  rw[Z04]at e
  split at e
  ·rename_i h;subst h;exact .inl (by rw[hob];rfl)
  ·cases e⟩
 intro St M0 σ w ρ hin ha hobj _;obtain⟨loc,hl,hor⟩:=hobj x hxm l (by simp[hx,refs]) _ hob;have hv:=Z1w (hx▸ha x hxm) hl;cases hor with
 |siter _ _ r hr=>
  have hrun:=Lib.run_next_any_at (P:=P) w r s pos o.type hr hlt;unfold OpRuns;rw[show(execOp ρ o).run P w = .ok (.value (.tuple #[.bool true,.int .i64 pos,.int .i32 (Utf8.decode s pos).1])) (w.iterAt r s (pos+(Utf8.decode s pos).2))from by
   simp only[execOp,ho,hv,Sem.run_bind,hrun];simp]
  have hx2:FExt (fun b=>b=r) w (w.iterAt r s (pos+(Utf8.decode s pos).2)):=⟨rfl,rfl,rfl,by simp[World.iterAt],fun b hb hne=>by simp[World.iterAt,Ne.symm hne],qL _⟩;refine⟨σ,Post.upd hin hl rfl hx2 (by simp) (.siter s _ r (Lib.iterAt_heap w r s pos _ hr)) (.pv _ _ (.tup _ _ rfl fun i p e=>?_))⟩
  match i,e with
  |0,e=>simp at e;subst e;exact .val _
  |1,e=>simp at e;subst e;exact .val _
  |2,e=>simp at e;subst e;exact .val _
  |i+3,e=>simp at e
theorem Zw9{x:Operand}{s:ByteArray}{l pos:Nat}(ho:o.op = .next x true)(hx:ev x = .ref l)(hob:ob l=some (.siter s pos))(hlt:¬pos<s.size):Step P o ev ob [] (.pv (.tup [.val (.bool false)])):=by
 have hxm:x∈o.op.operands:=by simp[ho,Op.operands]
 refine .of_pure (fun l hl=>by simp[refs]at hl) fun St M0 σ w ρ hin ha hobj=>?_
 obtain⟨loc,hl,hor⟩:=hobj x hxm l (by simp[hx,refs]) _ hob;have hv:=Z1w (hx▸ha x hxm) hl;cases hor with
 |siter _ _ r hr=>
  refine⟨.tuple #[.bool false],?_,.pv _ _ (.tup _ _ rfl fun i p e=>?_)⟩
  ·simp only[execOp,ho,hv,Sem.run_bind,Lib.run_next_end_at (P:=P) w r s pos o.type hr hlt];simp
  match i,e with
  |0,e=>simp at e;subst e;exact .val _
  |i+1,e=>simp at e
theorem Zv9{t:TypeId}{x:Operand}{f fo ft:Nat}{cs:List PV}{ty fty:TY}{fs:Array Field}{fd:Field}{p:PV}(hT:T.ok P)(ho:o.op = .field t x f)(hx:ev x = .pv (.agg cs))(ht:T t=some ty)(hu:ty.und = .struct fs)(hf:fs[f]? = some fd)(hft:T fd.type=some fty)(h:LoadsP fty cs fd.offset p):Step P o ev ob [] (.pv p):=by
 have hxm:x∈o.op.operands:=by simp[ho,Op.operands]
 refine .of_pure (fun l hl=>by simp[refs]at hl) fun St M0 σ w ρ hin ha hobj=>?_
 obtain⟨vs,hv,hvs,hvp,hv1⟩:=pr_agg (arg_pv (hx▸ha x hxm));obtain⟨_,hun,_⟩:=hT _ _ ht;obtain⟨hfi,hfu,_⟩:=hT _ _ hft;rw[hu]at hun;rcases h with⟨hd,hle,rfl⟩|⟨hd,hp⟩
 ·have hag:(isAgg fd.type).run P w = .ok true w:=by
   cases hd':fty.und<;>simp[hd',aggD]at hd<;>simp[isAgg,run_underlying hfu,hd']
  have hsz:(sizeOf fd.type).run P w = .ok fty.info.size w:=by simp[sizeOf,Z0o hfi]
  have gx:∀j,j<fty.info.size->(vs.extract fd.offset (fd.offset+fty.info.size)).getD j undef=vs.getD (fd.offset+j) undef:=by
   intro j hj;simp[qb,show j<min (fd.offset+fty.info.size) vs.size-fd.offset from by omega,show fd.offset+j<vs.size from by omega]
  refine⟨.agg (vs.extract fd.offset (fd.offset+fty.info.size)),?_,.pv _ _ (.agg _ _ (by simp;omega) (fun j q e=>?_) (fun j hj=>?_))⟩
  ·simp[execOp,ho,hv,Instr.field,run_underlying hun,hf,asAgg,part,hag,hsz]
  ·have hj:j<fty.info.size:=by have:=(qf.1 e).1;simp at this;omega
   rw[gx j hj];rw[qm,qK hj,qA]at e;exact hvp _ q e
  have hj':j<fty.info.size:=by simp at hj;omega
  rw[gx j hj'];exact hv1 _ (by omega)
 have hag:(isAgg fd.type).run P w = .ok false w:=by
  cases hd':fty.und<;>simp[hd',aggD]at hd<;>simp[isAgg,run_underlying hfu,hd']
 have hlt:fd.offset<vs.size:=by rw[hvs];exact(qf.1 hp).1
 refine⟨vs.getD fd.offset undef,?_,.pv _ _ (hvp _ _ hp)⟩;simp[execOp,ho,hv,Instr.field,run_underlying hun,hf,asAgg,part,hag,Array.getD,hlt]
theorem Zwb{x:Operand}{l off:Nat}(ho:o.op = .nilCheck x)(hx:ev x = .ptr l off)(hl:liveO (ob l)=true):Step P o ev ob [] (.ptr l off):=by
 have hxm:x∈o.op.operands:=by simp[ho,Op.operands]
 refine .of_pure (fun k hk=>⟨x,hxm,by simpa[hx]using hk⟩) fun St M0 σ w ρ hin ha hobj=>?_
 obtain⟨obj,e,hg⟩:=Z3k hl;obtain⟨loc,h1,h2⟩:=Z0q (hobj x hxm l (by simp[hx,refs]) _ e) hg;have hA:=ha x hxm;obtain⟨b,h3,h4⟩:=Z1n (hx▸hA) h1;exact⟨ρ x,by simp[execOp,ho,h4],hx▸hA⟩
theorem Zwi{t:TypeId}{x i:Operand}{size n:Nat}{f:Nat->List PV}{k:IntKind}{h:Int}(hT:T.ok P)(ho:o.op = .slice t x none (some i) none)(hx:ev x = .pv (.ro size n f))(hi:ev i = .pv (.val (.int k h)))(hs:SliceOf T t size)(h0:0<=h)(h1:h<=n) :
  Step P o ev ob [] (.pv (.ro size h.toNat f)):=by
 have hxm:x∈o.op.operands:=by simp[ho,Op.operands]
 have him:i∈o.op.operands:=by simp[ho,Op.operands]
 refine .of_pure (fun l hl=>by simp[refs]at hl) fun St M0 σ w ρ hin ha hobj=>?_
 have hA:=arg_pv (hx▸ha x hxm);have hq:=pr_val (arg_pv (hi▸ha i him));obtain⟨ty,e,ety,h2,h3,h4,h5⟩:=hs;obtain⟨_,hu,_⟩:=hT _ _ h2;obtain⟨hie,_,_⟩:=hT _ _ h4;rw[h3]at hu;have hsz:(sizeOf e).run P w = .ok ety.info.size w:=by simp[sizeOf,Z0o hie]
 cases hv:ρ x with
 |slice a len cap=>
  rw[hv]at hA;cases hA with
  |ro _ _ _ _ _ u hcap hmax hzn hsf hmem hp=>
   have hle:h<=cap:=by omega
   have hadd:(if cap=0 then a else Option.map (fun x=>x.add 0) a)=a:=by
    cases a<;>simp[add_zero]
   refine⟨.slice a h.toNat cap,?_,.pv _ _ ?_⟩
   ·simp[execOp,ho,hv,hq,Instr.sliceAt,Instr.slice,Instr.sliceBounds,Instr.sliceBound,asIntOf,run_underlying hu,h0,hle,hsz,hadd]
   refine .ro size h.toNat f a cap u (by omega) hmax hzn (fun i hi'=>hsf i (by omega)) (fun hpos=>?_) (fun i hi'=>hp i (by omega));obtain⟨ad,e1,hb,hM,hc⟩:=hmem (by omega);exact⟨ad,e1,hb,hM,fun i hi'=>hc i (by omega)⟩
 |_=>rw[hv]at hA;cases hA
theorem Z7t{neg:Bool}{t t':TypeId}{x y:Operand}{r:Bool}(hT:T.ok P)(ho:o.op = .binOp (if neg then .neq else .eql) t x y t')(hs:isSliceT T t=true)(hy:ev y = .pv (.val (.slice none 0 0)))
  (hx:(∃p,ev x = .pv (.nn p)∧r=false)∨(ev x = .pv (.val (.slice none 0 0))∧r=true)):Step P o ev ob [] (.pv (.val (.bool (xor neg r)))):=by
 have hxm:x∈o.op.operands:=by simp[ho,Op.operands]
 have hym:y∈o.op.operands:=by simp[ho,Op.operands]
 refine .of_pure (fun l hl=>by simp[refs]at hl) fun St M0 σ w ρ hi ha hobj=>?_
 have h2:=pr_val (arg_pv (hy▸ha y hym));obtain⟨_,ty,e,_,htx,hex,_,_⟩:=Z78 hs;obtain⟨_,hu,_⟩:=hT _ _ htx;rw[hex]at hu;have hv:∃a n c,ρ x = .slice a n c∧a.isNone=r:=by
  rcases hx with⟨p,hx,rfl⟩|⟨hx,rfl⟩
  ·have hA:=arg_pv (hx▸ha x hxm);cases hv:ρ x<;>rw[hv]at hA<;>cases hA;exact⟨_,_,_,rfl,rfl⟩
  exact⟨none,0,0,pr_val (arg_pv (hx▸ha x hxm)),rfl⟩
 obtain⟨a,n,c,hv,rfl⟩:=hv;have hq:∀op:BinOp,(eqGuard op t x y (.slice a n c) (.slice none 0 0)).run P w = .ok () w:=fun op=>by cases op<;>simp[eqGuard]
 refine⟨.bool (xor neg a.isNone),?_,.pv _ _ (.val _)⟩;cases neg
 ·simp[execOp,ho,hv,h2,hq,binOp,run_equal_slice_nil w t e a n c hu]
 simp[execOp,ho,hv,h2,hq,binOp,run_equal_slice_nil w t e a n c hu]
def zcellsOf(T:Tab)(t:TypeId):Option (List PV):=
 match T t with
 |some ty=>match ty.und with
  | .slice e=>match T e with
   |some ety=>match ety.info.zero with
    |some z=>some (z.cells.toList.map .val)
    |none=>none
   |none=>none
  |_=>none
 |none=>none
theorem Zw4{t:TypeId}{x y:Operand}{d size:Nat}{k k':IntKind}{n m:Int}{zs:List PV}(hT:T.ok P)(ho:o.op = .makeSlice t x y)(hx:ev x = .pv (.val (.int k n)))(hy:ev y = .pv (.val (.int k' m)))(he:elemOf T t size=true)(hz:zcellsOf T t=some zs)(h0:0<=n)(h1:n<=m)(h2:m<=1073741824) :
  Step P o ev ob [(d,.row size n.toNat (fun _=>zs))] (.own d):=by
 have hxm:x∈o.op.operands:=by simp[ho,Op.operands]
 have hym:y∈o.op.operands:=by simp[ho,Op.operands]
 have hback:∀u∈o.op.operands,refs (ev u) = []:=by
  intro u hu;simp[ho,Op.operands]at hu;rcases hu with rfl|rfl
  ·rw[hx];rfl
  ·rw[hy];rfl
 refine⟨?_,fun l hl=>.inr (by simp[refs]at hl;subst hl;simp[getO]),fun i obj e' l hl=>by rw[Z04]at e';split at e'<;>cases e';simp[refsO]at hl,fun l obj e' ⟨x,hx,hl⟩=>by rw[hback x hx]at hl;simp at hl⟩;intro St M0 σ w ρ hi ha hobj hf;have hfr:σ d=none:=by
  rcases hf d (by simp[getO])with⟨x,hx,hl⟩|⟨h,_⟩
  ·rw[hback x hx]at hl;simp at hl
  ·exact h
 have hv:=pr_val (arg_pv (hx▸ha x hxm));have hv':=pr_val (arg_pv (hy▸ha y hym));obtain⟨e,i,z,hE,hsize⟩:=Z6r hT he;subst hsize;have hzs:zs=z.cells.toList.map .val:=by
  unfold zcellsOf at hz
  split at hz
  ·rename_i ty hty;obtain⟨_,hu,_⟩:=hT _ _ hty
   split at hz
   ·rename_i e' he';rw[he',hE.ht]at hu;cases hu
    split at hz
    ·rename_i ety hety;obtain⟨hie,_,_⟩:=hT _ _ hety;rw[hE.hi]at hie;cases hie
     split at hz
     ·rename_i z' hz';rw[hE.hz]at hz';cases hz';cases hz;rfl
     ·cases hz
    ·cases hz
   ·cases hz
  ·cases hz
 subst hzs;have hby:(i.bytes:Int)*m<=281474976710656:=by
  have h3:=hE.small;have:(i.bytes:Int)*m<=65536*1073741824:=Int.mul_le_mul (by omega) h2 (by omega) (by omega);omega
 have hrun:=run_make (P:=P) w t e i z hE.ht hE.hi hE.hz k k' n m h0 h1 hby (by omega);unfold OpRuns;rw[show(execOp ρ o).run P w = .ok (.value (.slice (some ⟨w.heap.size,0,none⟩) n.toNat m.toNat)) (w.alloc (.cells (madeCells z.cells (m.toNat*i.size)) e))from by
  simp[execOp,ho,hv,hv',hrun]]
 have hget:∀k,k<m.toNat*i.size->(madeCells z.cells (m.toNat*i.size)).getD k undef=z.cells.getD (k%i.size) undef:=by
  intro k hk;have hlt:k%i.size<z.cells.size:=by rw[hE.zs];exact Nat.mod_lt _ hE.pos
  simp only[madeCells,Array.getD,Array.size_map,Array.size_range,hk,dif_pos,Array.getInternal_eq_getElem,Array.getElem_map,Array.getElem_range,hE.zs];rw[getElem!_pos z.cells (k%i.size) hlt];simp[show k%i.size<i.size from Nat.mod_lt _ hE.pos]
 refine⟨_,Post.new (loc:=⟨.slice (some ⟨w.heap.size,0,none⟩) n.toNat m.toNat,some w.heap.size⟩) hi hfr (fun b hb=>by cases hb;rfl) (by simp) ?_ (.own _ _ fun lc h=>by simp[upd1]at h;rw[<-h])⟩;refine .row i.size n.toNat _ w.heap.size m.toNat _ e (Z0g w _) (by omega) (by unfold maxLen;omega) (by rw[size_madeCells]) (fun k hk=>by simp[hE.zs]) (fun k hk j p ep=>?_) (fun k hk=>?_)
 ·have hj:j<i.size:=by have:=(qf.1 ep).1;simpa[hE.zs]using this
  have hkm:k*i.size+j<m.toNat*i.size:=idx_lt (by omega) hj;rw[hget _ hkm];have e1:(k*i.size+j)%i.size=j:=by rw[Nat.add_comm,Nat.add_mul_mod_self_right,Nat.mod_eq_of_lt hj]
  rw[e1];simp at ep;obtain⟨u,hu,rfl⟩:=ep;have:z.cells.getD j undef=u:=by simp[qb,hu]
  rw[this];exact .val u
 ·rw[size_madeCells]at hk;rw[hget k hk];have hlt:k%i.size<z.cells.size:=by rw[hE.zs];exact Nat.mod_lt _ hE.pos
  exact hE.z1 _ (by simp[Array.getD,hlt])
end steps
section steps
variable {P:Program} {T:Tab} {o:Oper} {ev:Operand->AV} {ob:Nat->Option AObj} {K:AV->Upd->Prop}
theorem Zv3{fo:Operand}{args:Array Operand}{ts:Array TypeId}{f:FuncId}{caps:List AV}{d size n:Nat}{g:Nat->List PV}(ho:o.op = .call { callee:=.value fo,args:=args,argTypes:=ts })(hf:ev fo = .fn f caps)
  (hAC:AC P f (lentArgs ev ob args.toList caps) [] (.own 0) [(0,.row size n g)]) (hdL:d∉lentRefs ev args.toList caps) :
  Step P o ev ob ((d,.row size n g)::goneL (lentRefs ev args.toList caps)) (.own d):=by
 have hfm:fo∈o.op.operands:=by simp[ho,Op.operands,Call.operands]
 have ham:∀x∈args,x∈o.op.operands:=fun x hx=>by simp[ho,Op.operands,Call.operands,hx]
 have hback:∀x∈o.op.operands,∀l∈refs (ev x),l∈lentRefs ev args.toList caps:=by
  intro x hx l hl;simp[ho,Op.operands,Call.operands]at hx;rcases hx with rfl|hx
  ·rw[hf]at hl;simp only[refs]at hl;have:∀(xs ys:List AV),l∈refs.refsL ys->l∈refs.refsL (xs++ys):=by
    intro xs
    induction xs with
    |nil=>intro ys h;exact h
    |cons y xs ih=>intro ys h;simp only[List.cons_append,refs.refsL,qo];exact .inr (ih ys h)
   exact this _ _ hl
  ·obtain⟨i,hi⟩:=List.getElem?_of_mem (Array.mem_toList_iff.2 hx);refine Z07 (cs:=args.toList.map ev++caps) (i:=i) (c:=ev x) ?_ l hl;rw[qr (by simpa using(qf.1 hi).1)];simp at hi;simp[hi]
 have hgo:∀k,getO ((d,AObj.row size n g)::goneL (lentRefs ev args.toList caps)) k=if d=k then some (AObj.row size n g)else if k∈lentRefs ev args.toList caps then some .gone else none:=fun k=>by
  rw[Z2h];split
  ·rfl
  ·exact Z1o
 refine⟨?_,fun l hl=>.inr (by simp[refs]at hl;subst hl;rw[hgo];simp),fun i obj e l hl=>?_,fun l obj e ⟨x,hx,hlx⟩=>?_⟩
 ·intro St M0 σ w ρ hi ha hobj hfree;obtain⟨hfn,hcall⟩:=hAC;have hfr:σ d=none:=by
   rcases hfree d (by rw[hgo];simp)with⟨x,hx,hl⟩|⟨h,_⟩
   ·exact absurd (hback x hx d hl) hdL
   ·exact h
  have hfv:=ha fo hfm;rw[hf]at hfv;cases hfv':ρ fo with
  |func fn first vs=>_
  |_=>rw[hfv']at hfv;cases hfv
  rw[hfv']at hfv;cases hfv with
  |fn _ _ _ hl hcap=>
   unfold OpRuns;rw[Z3o ho hfv' hfn]
   let L:=lentRefs ev args.toList caps
   have hrel:∀(i:Nat) (x:AV),(args.toList.map ev++caps)[i]? = some x->AR P w St (Mof M0 σ) σ x ((args.map ρ++vs).getD i undef)∧(∀l∈refs x,l∈L)∧(∀l∈refs x,∀obj,ob l=some obj->At P w St M0 σ l obj):=by
    intro i x hx;have hLx:∀l∈refs x,l∈L:=fun l hl=>Z07 hx l hl
    rw[qO]at hx
    split at hx
    ·rename_i hlt;have hlt':i<args.size:=by simpa using hlt
     have hxe:x=ev args[i]:=by
      simp[hlt']at hx;exact hx.symm
     have hm:args[i]∈o.op.operands:=ham _ (by simp);refine⟨?_,hLx,fun l hl obj e=>?_⟩
     ·rw[Z0b (by simpa using hlt'),hxe];have:=ha _ hm;simpa[Array.getD,hlt']using this
     ·rw[hxe]at hl;exact hobj _ hm l hl obj e
    ·rename_i hge;refine⟨?_,hLx,fun l hl obj e=>?_⟩
     ·rw[Z2g (by simp at hge ⊢;exact hge)];have:=hcap _ x hx;simpa using this
     ·exact hobj fo hfm l (by rw[hf];simp only[refs];exact Z07 hx l hl) obj e
   have hM:∀b,Mlent M0 σ L b->b<w.heap.size:=fun b hb=>by
    rcases hb with hb|⟨l,loc,_,h1,h2⟩
    ·exact(hi.m0 b hb).1
    ·exact hi.lt b ⟨l,loc,h1,h2⟩
   have hown:∀b,¬owned (fun _=>none) b:=fun b ⟨l,loc,h,_⟩=>by cases h
   have hmof:∀b,Mof (Mlent M0 σ L) (fun _=>none) b↔Mlent M0 σ L b:=fun b=>⟨fun h=>h.elim id (fun h=>absurd h (hown b)),.inl⟩
   have hinv:Inv (fun b=>b<w.heap.size) (Mlent M0 σ L) (fun _=>none) w:=⟨fun l l' loc loc' b e=>(by cases e),fun b h=>absurd h (hown b),fun b h=>⟨hM b h,hown b⟩,fun b h=>⟨h,hown b⟩,by
    rw[show Mof (Mlent M0 σ L) (fun _=>none)=Mlent M0 σ L from funext fun b=>propext (hmof b)];exact hi.gl.mono (Same.refl _ w) (fun b _ hb=>hb.imp id fun⟨l,loc,_,h1,h2⟩=>⟨l,loc,h1,h2⟩)⟩
   refine(hcall (fun b=>b<w.heap.size) (Mlent M0 σ L) (fun _=>none) w (args.map ρ++vs) hinv (fun _ _=>rfl) (fun l o e=>by simp[getO]at e) ?_ ?_).mono ?_
   ·simp[lentArgs,Z5a,hl]
   ·intro i x hx;obtain⟨c,hc,rfl⟩:=Z59 hx;obtain⟨h1,h2,h3⟩:=hrel i c hc;have:=Z45 hi h1 h2 h3;rw[show Mof (Mlent M0 σ L) (fun _=>none)=Mlent M0 σ L from funext fun b=>propext (hmof b)];exact this
   ·rintro e w' ⟨v,σ',rfl,hpost⟩
    refine⟨v,rfl,?_⟩;obtain⟨loc,hloc,hor⟩:=hpost.obj 0 (.row size n g) (by simp[getO]);have hv:=Z0l hpost.val hloc;have hext:∀F:Nat->Prop,FExt F w w':=fun F=>hpost.ext.mono (fun i _ ⟨l,loc,h,h1,_⟩=>by cases h1)
    have hnew:∀b,loc.blk=some b->w.heap.size<=b:=fun b hb=>by
     rcases hpost.blk b ⟨0,loc,hloc,hb⟩with h|h
     ·exact absurd h (hown b)
     ·exact h
    have hMM:∀b,Mof M0 (upd1 (dropL σ L) d loc) b->Mof (Mlent M0 σ L) σ' b:=by
     intro b hb;rcases hb with hb|hb
     ·exact .inl (.inl hb)
     ·rcases Z16 hb with⟨l,lc,h1,h2⟩|h
      ·exact .inl (.inr ⟨l,lc,(Z0s h1).2,(Z0s h1).1,h2⟩)
      ·exact .inr ⟨0,loc,hloc,h⟩
    have hor':OR P w' St (Mof M0 (upd1 (dropL σ L) d loc)) (upd1 (dropL σ L) d loc) (.row size n g) loc:=by
     cases hor with
     |row0 _ _ a=>exact .row0 _ _ a
     |row _ _ _ b cap vs t hb hn hmax hsz hs hh h1=>exact .row _ _ _ b cap vs t hb hn hmax hsz hs (fun i hi j p e=>(hh i hi j p e).mono (Same.refl _ w') (fun b _ hb=>hMM b hb)) h1
    subst hv;refine⟨upd1 (dropL σ L) d loc,.own _ _ fun lc h=>by simp[upd1]at h;rw[h],fun k x e=>?_,fun k e=>?_,fun k lc lc' e e'=>?_,?_,fun b h=>?_,hext _⟩
    ·rw[hgo]at e
     split at e
     ·rename_i h;cases e;subst h;exact⟨loc,by simp[upd1],hor'⟩
     ·rename_i hne
      split at e
      ·rename_i hm;cases e;show upd1 (dropL σ L) d loc k=none
       simp[upd1,dropL,show ¬k=d from fun h=>hne h.symm,show k∈L from hm]
      ·cases e
    ·rw[hgo]at e
     split at e
     ·cases e
     ·rename_i hne
      split at e
      ·cases e
      ·rename_i hm;simp[upd1,dropL,show ¬k=d from fun h=>hne h.symm,show ¬k∈L from hm]
    ·unfold upd1 at e'
     split at e'
     ·rename_i h;rw[h,hfr]at e;cases e
     ·exact qN ((Z0s e').1.symm.trans e)
    ·intro k k' lc lc' b e e' eb eb';unfold upd1 at e e'
     split at e<;>split at e'
     ·rename_i h h';rw[h,h']
     ·cases e;have h1:=hnew b eb;have h2:=hi.lt b ⟨k',lc',(Z0s e').1,eb'⟩;omega
     ·cases e';have h1:=hnew b eb';have h2:=hi.lt b ⟨k,lc,(Z0s e).1,eb⟩;omega
     ·exact hi.sep k k' lc lc' b (Z0s e).1 (Z0s e').1 eb eb'
    ·rcases Z16 h with h|h
     ·exact .inl (Z1q h)
     ·exact .inr (hnew b h)
 ·rw[hgo]at e
  split at e
  ·cases e;simp[refsO]at hl
  ·split at e<;>cases e;simp[refsO]at hl
 ·have hm:=hback x hx l hlx;rw[hgo]at e
  by_cases h:d=l
  ·subst h;exact absurd hm hdL
  ·rw[qJ h,qK hm]at e;cases e;exact .inr rfl
theorem Zv0{fo:Operand}{args:Array Operand}{ts:Array TypeId}{dom:List PV->Prop}{isB:Bool}{gb:List PV->Bool}{gi:List PV->Int}{xs:List PV}(ho:o.op = .call { callee:=.value fo,args:=args,argTypes:=ts })
  (hf:ev fo = .clo dom isB gb gi) (hxs:args.toList.map ev=xs.map .pv) (hd:dom xs):Step P o ev ob [] (.pv (cloRes isB gb gi xs)):=by
 have hfm:fo∈o.op.operands:=by simp[ho,Op.operands,Call.operands]
 have ham:∀x∈args,x∈o.op.operands:=fun x hx=>by simp[ho,Op.operands,Call.operands,hx]
 refine⟨?_,fun l hl=>by simp[refs]at hl,fun i obj e l hl=>by simp[getO]at e,fun l obj e _=>by simp[getO]at e⟩;intro St M0 σ w ρ hi ha hobj hfree;have hfv:=ha fo hfm;rw[hf]at hfv;cases hfv':ρ fo with
 |func fn first vs=>_
 |_=>rw[hfv']at hfv;cases hfv
 rw[hfv']at hfv;cases hfv with
 |clo _ _ _ _ f _ C hC h=>
  obtain⟨hfn,hspec⟩:=h;have hlen:args.size=xs.length:=by
   have:=congrArg List.length hxs;simpa using this
  unfold OpRuns;rw[Z3o ho hfv' hfn];refine(hspec w (Mof M0 σ) xs (args.map ρ) hd (qL _) (fun _ _=>rfl) (by simpa using hlen) (fun i x hx=>?_)).mono ?_
  ·have hlt:i<args.size:=by rw[hlen];exact(qf.1 hx).1
   have h2:(args.toList.map ev)[i]? = some (.pv x):=by rw[hxs];simp[hx]
   simp[hlt]at h2;have h3:=ha _ (ham args[i] (by simp));rw[h2]at h3;have:=arg_pv h3;simpa[Array.getD,hlt]using this
  rintro e w' ⟨r,rfl,hr,hx⟩
  have hsame:Same (Mof M0 σ) w w':=⟨hx.size,fun b hb _=>hx.block b hb (fun h=>h)⟩;exact⟨r,rfl,σ,.pv _ _ hr,fun _ _ e=>by simp[getO]at e,fun _ _=>rfl,fun _ _ _ e e'=>qN (e'.symm.trans e),hi.sep,fun _ h=>.inl h,hx.mono (fun _ _ h=>h.elim)⟩
end steps
def handV(l:Nat):AV->Option AV
 | .pv p=>some (.pv p)
 | .junk=>some .junk
 | .ptr k off=>match Nat.beq k l with
  |true=>some (.ptr 0 off)
  |false=>none
 | .eptr k size i j=>match Nat.beq k l with
  |true=>some (.eptr 0 size i j)
  |false=>none
 | .own k=>match Nat.beq k l with
  |true=>some (.own 0)
  |false=>none
 | .part k size i n=>match Nat.beq k l with
  |true=>some (.part 0 size i n)
  |false=>none
 | .ref k=>match Nat.beq k l with
  |true=>some (.ref 0)
  |false=>none
 | .fn f caps=>match(refs.refsL caps).isEmpty with
  |true=>some (.fn f caps)
  |false=>none
 | .clo dom isB gb gi=>some (.clo dom isB gb gi)
 | .mix _=>none
def handL(l:Nat):List AV->Option (List AV)
 | []=>some []
 |x::xs=>match handV l x with
  |some y=>match handL l xs with
   |some ys=>some (y::ys)
   |none=>none
  |none=>none
theorem Z9v{l:Nat}:∀ {xs ys:List AV},handL l xs=some ys->ys.length=xs.length∧∀(i:Nat) (y:AV),ys[i]? = some y->∃x,xs[i]? = some x∧handV l x=some y
 | [],ys,h=>by simp only[handL,qw]at h;subst h;exact⟨rfl,fun i y e=>by simp at e⟩
 |x::xs,ys,h=>by
  simp only[handL]at h
  split at h
  ·rename_i y hy
   split at h
   ·rename_i ys' hys;simp only[qw]at h;subst h;obtain⟨h1,h2⟩:=Z9v hys;refine⟨by simp[h1],fun i z e=>?_⟩;cases i with
    |zero=>simp at e;subst e;exact⟨x,by simp,hy⟩
    |succ i=>simpa using h2 i z (by simpa using e)
   cases h
  cases h
def sig1(σ:Sig)(l:Nat):Sig:=fun k=>if k=0 then σ l else none
def hidden(M0:Nat->Prop)(σ:Sig)(l:Nat)(b:Nat):Prop:=Mof M0 σ b∧¬ ∃loc,σ l=some loc∧loc.blk=some b
theorem sig1_owned{σ:Sig}{l b:Nat}:owned (sig1 σ l) b↔∃loc,σ l=some loc∧loc.blk=some b:=by
 constructor
 ·rintro ⟨k,loc,h,hb⟩
  unfold sig1 at h
  split at h
  ·exact⟨loc,h,hb⟩
  cases h
 rintro ⟨loc,h,hb⟩
 exact⟨0,loc,by simp[sig1,h],hb⟩
theorem Z5g{M0:Nat->Prop}{σ:Sig}{l b:Nat}(h:Mof (hidden M0 σ l) (sig1 σ l) b):Mof M0 σ b:=by
 rcases h with h|h
 ·exact h.1
 obtain⟨loc,h1,h2⟩:=sig1_owned.1 h;exact .inr ⟨l,loc,h1,h2⟩
theorem Zer{P:Program}{w:World}{St M0:Nat->Prop}{σ:Sig}{l:Nat}{x y:AV}{v:Value}(h:AR P w St (Mof M0 σ) σ x v)(hy:handV l x=some y) :
  AR P w St (Mof (hidden M0 σ l) (sig1 σ l)) (sig1 σ l) y v:=by
 have mono:∀z:AV,refs z = []->AR P w St (Mof M0 σ) σ z v->AR P w St (Mof (hidden M0 σ l) (sig1 σ l)) (sig1 σ l) z v:=fun z hz hr=>
  hr.mono (Same.refl _ w) (fun b _ hb=>Z5g hb) (fun _ _ _=>rfl) (fun k hk=>by rw[hz]at hk;simp at hk)
 have s0:sig1 σ l 0=σ l:=by simp[sig1]
 cases x with
 |pv p=>simp only[handV,qw]at hy;subst hy;exact mono _ (by simp[refs]) h
 |junk=>simp only[handV,qw]at hy;subst hy;exact .junk _
 |ptr k off=>
  simp only[handV]at hy
  split at hy
  ·rename_i e;have e:=qg e;subst e;cases hy;cases h with
   |ptr _ _ _ h=>exact .ptr 0 off v (fun loc e=>h loc (by rw[<-s0];exact e))
  cases hy
 |eptr k size i j=>
  simp only[handV]at hy
  split at hy
  ·rename_i e;have e:=qg e;subst e;cases hy;cases h with
   |eptr _ _ _ _ _ h=>exact .eptr 0 size i j v (fun loc e=>h loc (by rw[<-s0];exact e))
  cases hy
 |own k=>
  simp only[handV]at hy
  split at hy
  ·rename_i e;have e:=qg e;subst e;cases hy;cases h with
   |own _ _ h=>exact .own 0 v (fun loc e=>h loc (by rw[<-s0];exact e))
  cases hy
 |part k size i n=>
  simp only[handV]at hy
  split at hy
  ·rename_i e;have e:=qg e;subst e;cases hy;cases h with
   |part _ _ _ _ _ h=>exact .part 0 size i n v (fun loc e=>h loc (by rw[<-s0];exact e))
  cases hy
 |ref k=>
  simp only[handV]at hy
  split at hy
  ·rename_i e;have e:=qg e;subst e;cases hy;cases h with
   |ref _ _ h=>exact .ref 0 v (fun loc e=>h loc (by rw[<-s0];exact e))
  cases hy
 |fn f caps=>
  simp only[handV]at hy
  split at hy
  ·rename_i e;cases hy;exact mono _ (by simpa[refs]using e) h
  cases hy
 |clo dom isB gb gi=>simp only[handV,qw]at hy;subst hy;exact mono _ (by simp[refs]) h
 |mix cs=>cases hy
theorem Z7f{P:Program}{w:World}{St M M':Nat->Prop}{σ σ':Sig}{o:AObj}{loc:Loc}(h:OR P w St M σ o loc)(hm:∀b,b<w.heap.size->M' b->M b)(hr:refsO o = []):OR P w St M' σ' o loc:=
 h.mono (Same.refl _ w) hm (fun _ _ _=>rfl) (fun l hl=>by rw[hr]at hl;simp at hl) (fun _ _=>rfl)
section
variable {P:Program} {o:Oper} {ev:Operand->AV} {ob:Nat->Option AObj}
theorem Zv2{fo:Operand}{args:Array Operand}{ts:Array TypeId}{f:FuncId}{caps ys:List AV}{l:Nat}{o1 o2:AObj}{res:PV}(ho:o.op = .call { callee:=.value fo,args:=args,argTypes:=ts })(hf:ev fo = .fn f caps)
  (hob:ob l=some o1) (hg1:liveO (some o1)=true) (hg2:liveO (some o2)=true) (hr1:refsO o1 = []) (hr2:refsO o2 = []) (hys:handL l (args.toList.map ev++caps)=some ys) (hl:l∈refs.refsL (args.toList.map ev++caps))
  (hAC:AC P f ys [(0,o1)] (.pv res) [(0,o2)]):Step P o ev ob [(l,o2)] (.pv res):=by
 have hfm:fo∈o.op.operands:=by simp[ho,Op.operands,Call.operands]
 have ham:∀x∈args,x∈o.op.operands:=fun x hx=>by simp[ho,Op.operands,Call.operands,hx]
 have href:∃x∈o.op.operands,l∈refs (ev x):=by
  have key:∀(xs:List AV),l∈refs.refsL xs->∃x∈xs,l∈refs x:=by
   intro xs
   induction xs with
   |nil=>intro h;simp[refs.refsL]at h
   |cons x xs ih=>
    intro h;simp only[refs.refsL,qo]at h;rcases h with h|h
    ·exact⟨x,by simp,h⟩
    obtain⟨y,hy,hh⟩:=ih h;exact⟨y,by simp[hy],hh⟩
  obtain⟨x,hx,hlx⟩:=key _ hl;simp only[qo,List.mem_map]at hx;rcases hx with⟨y,hy,rfl⟩|hx
  ·exact⟨y,ham y (by simpa using hy),hlx⟩
  obtain⟨i,hi⟩:=List.getElem?_of_mem hx;exact⟨fo,hfm,by rw[hf];simp only[refs];exact Z07 hi l hlx⟩
 have hne1:o1≠.gone:=fun h=>by subst h;simp[liveO]at hg1
 have hne2:o2≠.gone:=fun h=>by subst h;simp[liveO]at hg2
 refine⟨?_,fun k hk=>by simp[refs]at hk,fun i obj e k hk=>?_,fun k obj e _=>?_⟩
 ·intro St M0 σ w ρ hi ha hobj hfree;obtain⟨hfn,hcall⟩:=hAC;have hfv:=ha fo hfm;rw[hf]at hfv;cases hfv':ρ fo with
  |func fn first vs=>_
  |_=>rw[hfv']at hfv;cases hfv
  rw[hfv']at hfv;cases hfv with
  |fn _ _ _ hlc hcap=>
   unfold OpRuns;rw[Z3o ho hfv' hfn];obtain⟨x0,hx0,hlx0⟩:=href;obtain⟨loc,hloc,hor⟩:=Z0q (hobj x0 hx0 l hlx0 o1 hob) hne1;have hrel:∀(i:Nat) (x:AV),(args.toList.map ev++caps)[i]? = some x->AR P w St (Mof M0 σ) σ x ((args.map ρ++vs).getD i undef):=by
    intro i x hx;rw[qO]at hx
    split at hx
    ·rename_i hlt;have hlt':i<args.size:=by simpa using hlt
     have hxe:x=ev args[i]:=by
      simp[hlt']at hx;exact hx.symm
     have hm:args[i]∈o.op.operands:=ham _ (by simp);rw[Z0b (by simpa using hlt'),hxe];have:=ha _ hm;simpa[Array.getD,hlt']using this
    rename_i hge;rw[Z2g (by simp at hge ⊢;exact hge)];have:=hcap _ x hx;simpa using this
   obtain⟨hyl,hyg⟩:=Z9v hys;have hblt:∀b,loc.blk=some b->b<w.heap.size:=fun b hb=>hi.lt b ⟨l,loc,hloc,hb⟩
   have hsig:∀b,owned (sig1 σ l) b->loc.blk=some b:=fun b hb=>by
    obtain⟨lc,h1,h2⟩:=sig1_owned.1 hb;rw[hloc]at h1;cases h1;exact h2
   have hinv:Inv St (hidden M0 σ l) (sig1 σ l) w:=by
    refine⟨fun k k' lc lc' b e e' _ _=>?_,fun b h=>hblt b (hsig b h),fun b h=>⟨?_,fun h2=>h.2 (sig1_owned.1 h2)⟩,fun b h=>⟨(hi.st b h).1,fun h2=>(hi.st b h).2 ⟨l,loc,hloc,hsig b h2⟩⟩,hi.gl.mono (Same.refl _ w) (fun b _ hb=>Z5g hb)⟩
    ·unfold sig1 at e e'
     split at e
     ·split at e'
      ·rename_i h h';rw[h,h']
      cases e'
     cases e
    rcases h.1 with h1|h1
    ·exact(hi.m0 b h1).1
    exact hi.lt b h1
   refine(hcall St (hidden M0 σ l) (sig1 σ l) w (args.map ρ++vs) hinv (fun k hk=>?_) (fun k obj e=>?_) ?_ ?_).mono ?_
   ·rw[Z04]at hk
    split at hk
    ·cases hk
    rename_i h;simp[sig1,show ¬k=0 from fun x=>h x.symm]
   ·rw[Z04]at e
    split at e
    ·rename_i h;cases e;subst h;have hor':OR P w St (Mof (hidden M0 σ l) (sig1 σ l)) (sig1 σ l) o1 loc:=Z7f hor (fun b _ hb=>Z5g hb) hr1;have hs0:sig1 σ l 0=some loc:=by simp[sig1,hloc]
     cases o1<;>first|exact⟨loc,hs0,hor'⟩|exact absurd rfl hne1
    cases e
   ·have:(args.map ρ++vs).size=(args.toList.map ev++caps).length:=by simp[hlc]
    rw[this,hyl]
   ·intro i y hy;obtain⟨x,hx,hxy⟩:=hyg i y hy;exact Zer (hrel i x hx) hxy
   rintro e w' ⟨v,σ1,rfl,hp⟩
   refine⟨v,rfl,?_⟩;obtain⟨loc2,hloc2,hor2⟩:=Z0q (hp.obj 0 o2 (by simp[getO])) hne2;have hstay:loc2=loc:=hp.stay 0 loc loc2 (by simp[sig1,hloc]) hloc2;have hblk:∀b,loc2.blk=some b->loc.blk=some b∨w.heap.size<=b:=fun b hb=>by
    rcases hp.blk b ⟨0,loc2,hloc2,hb⟩with h|h
    ·exact .inl (hsig b h)
    exact .inr h
   let σ':Sig:=fun k=>if k=l then some loc2 else σ k
   have hs1:σ' l=some loc2:=by simp[σ']
   have hs2:∀k,k≠l->σ' k=σ k:=fun k hk=>by simp[σ',hk]
   have hMM:∀b,Mof M0 σ' b->Mof (hidden M0 σ l) σ1 b:=by
    rintro b (hb|⟨k,lc,h1,h2⟩)
    ·refine .inl ⟨.inl hb,fun⟨lc,h3,h4⟩=>(hi.m0 b hb).2 ⟨l,lc,h3,h4⟩⟩
    by_cases hk:k=l
    ·subst hk;rw[hs1]at h1;cases h1;exact .inr ⟨0,loc2,hloc2,h2⟩
    rw[hs2 k hk]at h1;refine .inl ⟨.inr ⟨k,lc,h1,h2⟩,fun⟨lc',h3,h4⟩=>hk (hi.sep k l lc lc' b h1 h3 h2 h4)⟩
   have hor':OR P w' St (Mof M0 σ') σ' o2 loc2:=Z7f hor2 (fun b _ hb=>hMM b hb) hr2;refine⟨σ',.pv _ _ ((arg_pv hp.val).mono (Same.refl _ w') (fun b _ hb=>hMM b hb)),fun k obj e=>?_,fun k e=>?_,fun k lc lc' e e'=>?_,?_,fun b h=>?_,?_⟩
   ·rw[Z04]at e
    split at e
    ·rename_i h;cases e;subst h;cases o2<;>first|exact⟨loc2,hs1,hor'⟩|exact absurd rfl hne2
    cases e
   ·rw[Z04]at e
    split at e
    ·cases e
    rename_i h;exact hs2 k fun x=>h x.symm
   ·by_cases hk:k=l
    ·subst hk;rw[hs1]at e';rw[hloc]at e;cases e;cases e';exact hstay
    rw[hs2 k hk]at e';exact qN (e'.symm.trans e)
   ·intro k k' lc lc' b e e' eb eb'
    by_cases hk:k=l<;>by_cases hk':k'=l
    ·rw[hk,hk']
    ·subst hk;rw[hs1]at e;cases e;rw[hs2 k' hk']at e';rw[hstay]at eb;exact hi.sep k k' loc lc' b hloc e' eb eb'
    ·subst hk';rw[hs1]at e';cases e';rw[hs2 k hk]at e;rw[hstay]at eb';exact hi.sep k k' lc loc b e hloc eb eb'
    rw[hs2 k hk]at e;rw[hs2 k' hk']at e';exact hi.sep k k' lc lc' b e e' eb eb'
   ·obtain⟨k,lc,h1,h2⟩:=h
    by_cases hk:k=l
    ·subst hk;rw[hs1]at h1;cases h1;rcases hblk b h2 with h3|h3
     ·exact .inl ⟨k,loc,hloc,h3⟩
     exact .inr h3
    rw[hs2 k hk]at h1;exact .inl ⟨k,lc,h1,h2⟩
   refine hp.ext.mono ?_
   rintro b _ ⟨k,lc,h1,h2,h3⟩
   refine⟨l,loc,by simp[getO],hloc,?_⟩;unfold sig1 at h2
   split at h2
   ·rw[hloc]at h2;cases h2;exact h3
   cases h2
 ·rw[Z04]at e
  split at e
  ·cases e;rw[hr2]at hk;simp at hk
  cases e
 rw[Z04]at e
 split at e
 ·rename_i h;cases e;subst h;rw[hob];exact .inl hg1
 cases e
end
structure AState where
 tm:List (Nat×AV)
 ob:List (Nat×AObj)
structure FEnv where
 nt:Nat
 St:Nat->Prop
 M0:Nat->Prop
 F0:Nat->Prop
 w0:World
 pin:Nat->Option Loc
structure FEnv.ok (E:FEnv):Prop where
 m0:∀b,E.M0 b->b<E.w0.heap.size∧¬E.F0 b
 st:∀b,E.St b->b<E.w0.heap.size∧¬E.F0 b
 gl:Glob E.w0 (fun b=>E.M0 b∨E.F0 b)
 pn:∀l loc,E.pin l=some loc->900000<=l
structure RelF (P:Program) (E:FEnv) (tmf:Nat->AV) (obf:Nat->Option AObj) (σ:Sig) (a:Act) (w:World):Prop where
 sz:a.tmps.size=E.nt
 df:a.defers = []
 tm:∀t,AR P w E.St (Mof E.M0 σ) σ (tmf t) (a.tmps.getD t undef)
 ob:∀l o,obf l=some o->At P w E.St E.M0 σ l o
 nob:∀l,obf l=none->σ l=none
 wt:∀t,∀l∈refs (tmf t),obf l≠none
 wo:∀i o,obf i=some o->∀l∈refsO o,obf l≠none
 sep:Sep σ
 own:∀b,owned σ b->E.F0 b∨E.w0.heap.size<=b
 ext:FExt E.F0 E.w0 w
 pn:∀l loc,E.pin l=some loc->obf l≠none∧∀loc',σ l=some loc'->loc'=loc
abbrev Rel(P:Program)(E:FEnv)(s:AState)(σ:Sig)(a:Act)(w:World):Prop:=RelF P E (getT s.tm) (getO s.ob) σ a w
theorem RelF.lt{P:Program}{E:FEnv}{tmf:Nat->AV}{obf:Nat->Option AObj}{σ:Sig}{a:Act}{w:World}(h:RelF P E tmf obf σ a w):∀b,owned σ b->b<w.heap.size:=by
 rintro b ⟨l,loc,hl,hb⟩
 cases ho:obf l with
 |none=>rw[h.nob l ho]at hl;cases hl
 |some o=>
  have:=h.ob l o ho
  by_cases hg:o = .gone
  ·subst hg;rw[show σ l=none from this]at hl;cases hl
  obtain⟨loc',hl',hor⟩:=Z0q this hg;rw[hl]at hl';cases hl';exact hor.lt b hb
theorem RelF.inv{P:Program}{E:FEnv}(hE:E.ok){tmf:Nat->AV}{obf:Nat->Option AObj}{σ:Sig}{a:Act}{w:World}(h:RelF P E tmf obf σ a w):Inv E.St E.M0 σ w:=by
 refine⟨h.sep,h.lt,fun b hb=>?_,fun b hb=>?_,hE.gl.mono ⟨h.ext.size,fun b hb hn=>h.ext.block b hb (fun x=>hn (.inr x))⟩ (fun b hb hm=>hm.imp id fun ho=>(h.own b ho).elim id fun hx=>absurd hx (by omega))⟩
 ·obtain⟨h1,h2⟩:=hE.m0 b hb;refine⟨qD h1 h.ext.size,fun ho=>?_⟩;rcases h.own b ho with h3|h3
  ·exact h2 h3
  omega
 obtain⟨h1,h2⟩:=hE.st b hb;refine⟨qD h1 h.ext.size,fun ho=>?_⟩;rcases h.own b ho with h3|h3
 ·exact h2 h3
 omega
theorem Z0v{i:Nat}{o:AObj}{l:List (Nat×AObj)}{t:Nat}:getO ((i,o)::l) t=if i=t then some o else getO l t:=by
 simp only[getO]
 by_cases h:i=t
 ·subst h;simp
 rw[show Nat.beq i t=false from by rw[<-Bool.not_eq_true];simpa[Nat.beq_eq]using h];simp[h]
theorem Z4g:∀ {u v:List (Nat×AObj)} {l:Nat},getO (u++v) l=(match getO u l with|some o=>some o|none=>getO v l)
 | [],v,l=>by simp[getO]
 |(i,o)::u,v,l=>by
  simp only[List.cons_append,getO];cases Nat.beq i l with
  |true=>rfl
  |false=>exact Z4g
theorem Ze1{P:Program}{E:FEnv}(hE:E.ok){tmf:Nat->AV}{obf:Nat->Option AObj}{σ:Sig}{a:Act}{w:World}(h:RelF P E tmf obf σ a w)(tm:List (Nat×AV))(g:Nat):AR P w E.St (Mof E.M0 σ) σ (evO tm (.global g)) (a.eval (.global g)):=by
 show AR P w E.St (Mof E.M0 σ) σ (match Globals.get g with|some cs=>.pv (.cell cs)|none=>.junk) _
 cases e:Globals.get g with
 |none=>exact .junk _
 |some cs=>exact .pv _ _ ((h.inv hE).gl g cs e)
theorem Zh5(tm:List (Nat×AV))(g:Nat):refs (evO tm (.global g)) = []:=by
 simp only[evO];split<;>simp[refs]
theorem Z49{P:Program}{E:FEnv}(hE:E.ok){s:AState}{σ:Sig}{a:Act}{w:World}(h:Rel P E s σ a w)(x:Operand):AR P w E.St (Mof E.M0 σ) σ (evO s.tm x) (a.eval x):=by
 cases x with
 |tmp t=>exact h.tm t
 |const v=>exact .pv _ _ (Z3l v)
 |func f=>exact .fn f [] #[] rfl (fun i c e=>by simp at e)
 |global g=>exact Ze1 hE h s.tm g
theorem Z9e{P:Program}{E:FEnv}{s:AState}{σ:Sig}{a:Act}{w:World}(h:Rel P E s σ a w)(x:Operand):∀l∈refs (evO s.tm x),getO s.ob l≠none:=by
 cases x with
 |tmp t=>exact h.wt t
 |const v=>intro l hl;simp[evO,refs]at hl
 |func f=>intro l hl;simp[evO,refs,refs.refsL]at hl
 |global g=>intro l hl;rw[Zh5]at hl;simp at hl
theorem Z0m{t d:Nat}{v:AV}{l:List (Nat×AV)}:getT ((d,v)::l) t=if d=t then v else getT l t:=by
 simp only[getT]
 by_cases h:d=t
 ·subst h;simp
 rw[show Nat.beq d t=false from by rw[<-Bool.not_eq_true];simpa[Nat.beq_eq]using h];simp[h]
def putT(tm:List (Nat×AV))(d:Option Nat)(v:AV):List (Nat×AV):=
 match d with
 |some t=>(t,v)::tm
 |none=>tm
theorem RelF.post{P:Program}{E:FEnv}(hE:E.ok){tmf tmf':Nat->AV}{obf obf':Nat->Option AObj}{σ σ':Sig}{a:Act}{w w':World}(h:RelF P E tmf obf σ a w){dst:Option Nat}{u:Upd}{v:AV}{v':Value}
  (hp:Post P E.St E.M0 σ w u v σ' v' w') (hd:∀t,dst=some t->t<E.nt) (hlv:∀l obj,getO u l=some obj->obf l=none∨liveO (obf l)=true∨obj = .gone)
  (hrv:∀l∈refs v,obf l≠none∨getO u l≠none) (hro:∀i obj,getO u i=some obj->∀l∈refsO obj,obf l≠none∨getO u l≠none)
  (htm:∀t,(dst=some t∧tmf' t=v)∨(dst≠some t∧tmf' t=tmf t)) (hob:∀l,(∃o,getO u l=some o∧obf' l=some o)∨(getO u l=none∧obf' l=obf l)) :
  RelF P E tmf' obf' σ' (a.put dst v') w':=by
 have hi:=h.inv hE;have hF:∀b,b<w.heap.size->(∃l loc,getO u l≠none∧σ l=some loc∧loc.blk=some b)->owned σ b:=fun b _ ⟨l,loc,_,h1,h2⟩=>⟨l,loc,h1,h2⟩
 have hsame:Same (Mof E.M0 σ) w w':=hp.ext.same.mono (fun b hb hh=>.inr (hF b hb hh));have hm:∀b,b<w.heap.size->Mof E.M0 σ' b->Mof E.M0 σ b:=by
  intro b hb hh;rcases hh with hh|hh
  ·exact .inl hh
  ·rcases hp.blk b hh with h1|h1
   ·exact .inr h1
   ·omega
 have hSt:∀b,E.St b->b<w.heap.size->w'.heap[b]? = w.heap[b]?:=fun b hb hlt=>hp.ext.block b hlt (fun hh=>(hi.st b hb).2 (hF b hlt hh))
 have hdom:∀l,obf l≠none∨getO u l≠none->obf' l≠none:=by
  intro l hl;rcases hob l with⟨o,_,e⟩|⟨h1,e⟩
  ·rw[e];simp
  ·rw[e];rcases hl with hl|hl
   ·exact hl
   ·exact absurd h1 hl
 have back:∀l loc,obf l≠none->σ' l=some loc->σ l=some loc:=by
  intro l loc hl hloc;cases hu:getO u l with
  |none=>rw[<-hp.old l hu];exact hloc
  |some ob'=>
   cases hs:σ l with
   |some loc0=>rw[hp.stay l loc0 loc hs hloc]
   |none=>
    rcases hlv l ob' hu with h1|h1|h1
    ·exact absurd h1 hl
    ·obtain⟨obj,e,hg⟩:=Z3k h1;obtain⟨loc1,h2,_⟩:=Z0q (h.ob l obj e) hg;rw[hs]at h2;cases h2
    ·subst h1;have:σ' l=none:=hp.obj l _ hu;rw[this]at hloc;cases hloc
 have keep:∀(x:AV) (vx:Value),(∀l∈refs x,obf l≠none)->AR P w E.St (Mof E.M0 σ) σ x vx->AR P w' E.St (Mof E.M0 σ') σ' x vx:=
  fun x vx hx hA=>hA.mono hsame hm hSt (fun l hl loc hloc=>back l loc (hx l hl) hloc)
 refine⟨?_,?_,fun t=>?_,fun l x e=>?_,fun l e=>?_,fun t l hl=>?_,fun i x e l hl=>?_,hp.sep,fun b hb=>?_,⟨hp.ext.os.trans h.ext.os,hp.ext.tape.trans h.ext.tape,hp.ext.output.trans h.ext.output,qF h.ext.size hp.ext.size,fun b hb hFb=>(hp.ext.block b (qD hb h.ext.size) (fun hh=>?_)).trans (h.ext.block b hb hFb),qF h.ext.drawn hp.ext.drawn⟩,fun l loc e=>⟨hdom l (.inl (h.pn l loc e).1),fun loc' e'=>(h.pn l loc e).2 loc' (back l loc' (h.pn l loc e).1 e')⟩⟩
 ·cases dst with
  |none=>simp[Act.put,h.sz]
  |some t=>simp[Act.put,h.sz]
 ·cases dst with
  |none=>simp[Act.put,h.df]
  |some t=>simp[Act.put,h.df]
 ·rcases htm t with⟨e,e'⟩|⟨e,e'⟩
  ·subst e;rw[e'];have hlt:t<a.tmps.size:=by rw[h.sz];exact hd t rfl
   simpa[Act.put,qb,hlt]using hp.val
  ·rw[e'];have:=keep _ _ (h.wt t) (h.tm t);cases dst with
   |none=>exact this
   |some d=>
    have hne:d≠t:=fun hh=>e (by rw[hh])
    simpa[Act.put,qb,Array.getElem?_setIfInBounds_ne hne]using this
 ·rcases hob l with⟨o,hu,e'⟩|⟨hu,e'⟩
  ·rw[e']at e;cases e;exact hp.obj l _ hu
  ·rw[e']at e;have h1:=h.ob l x e
   by_cases hg:x = .gone
   ·subst hg;show σ' l=none
    rw[hp.old l hu];exact h1
   ·obtain⟨loc,hloc,hor⟩:=Z0q h1 hg;have h2:OR P w' E.St (Mof E.M0 σ') σ' x loc:=hor.mono hsame hm hSt (fun k hk loc' hh=>back k loc' (h.wo l x e k hk) hh) (fun b hb=>hp.ext.block b (hor.lt b hb) (fun⟨k,lk,h3,h4,h5⟩=>by
     have:=h.sep k l lk loc b h4 hloc h5 hb;subst this;exact h3 hu))
    have:σ' l=some loc:=by rw[hp.old l hu];exact hloc
    cases x<;>first|exact⟨loc,this,h2⟩|exact absurd rfl hg
 ·rcases hob l with⟨o,hu,e'⟩|⟨hu,e'⟩
  ·rw[e']at e;cases e
  ·rw[e']at e;rw[hp.old l hu];exact h.nob l e
 ·rcases htm t with⟨_,e'⟩|⟨_,e'⟩
  ·rw[e']at hl;exact hdom l (hrv l hl)
  ·rw[e']at hl;exact hdom l (.inl (h.wt t l hl))
 ·rcases hob i with⟨o,hu,e'⟩|⟨hu,e'⟩
  ·rw[e']at e;cases e;exact hdom l (hro i _ hu l hl)
  ·rw[e']at e;exact hdom l (.inl (h.wo i x e l hl))
 ·rcases hp.blk b hb with h1|h1
  ·exact h.own b h1
  ·exact .inr (qF h.ext.size h1)
 ·rcases h.own b (hF b (qD hb h.ext.size) hh)with h1|h1
  ·exact hFb h1
  ·omega
theorem Rel.post{P:Program}{E:FEnv}(hE:E.ok){s:AState}{σ σ':Sig}{a:Act}{w w':World}(h:Rel P E s σ a w){o:Oper}{u:Upd}{v:AV}{v':Value}
  (hp:Post P E.St E.M0 σ w u v σ' v' w') (hd:∀t,o.dst=some t->t<E.nt) (hlv:∀l obj,getO u l=some obj->getO s.ob l=none∨liveO (getO s.ob l)=true∨obj = .gone)
  (hrv:∀l∈refs v,(∃x,l∈refs (evO s.tm x))∨getO u l≠none) (hro:∀i obj,getO u i=some obj->∀l∈refsO obj,(∃x,l∈refs (evO s.tm x))∨getO u l≠none) :
  Rel P E ⟨putT s.tm o.dst v,u++s.ob⟩ σ' (a.put o.dst v') w':=by
 have hin:∀l,(∃x,l∈refs (evO s.tm x))->getO s.ob l≠none:=fun l ⟨x,hx⟩=>Z9e h x l hx
 refine RelF.post hE h hp hd hlv (fun l hl=>(hrv l hl).imp (hin l) id) (fun i obj e l hl=>(hro i obj e l hl).imp (hin l) id) (fun t=>?_) (fun l=>?_)
 ·cases o.dst with
  |none=>exact .inr ⟨by simp,rfl⟩
  |some d=>
   simp only[putT,Z0m]
   by_cases e:d=t
   ·subst e;exact .inl ⟨rfl,by simp⟩
   exact .inr ⟨by simpa using e,by simp[e]⟩
 simp only[Z4g];cases hu:getO u l with
 |some o=>exact .inl ⟨o,rfl,rfl⟩
 |none=>exact .inr ⟨rfl,rfl⟩
def chk(b:Bool)(K:Prop):Prop:=
 match b with
 |true=>K
 |false=>False
theorem Z02{b:Bool}{K:Prop}(h:chk b K):b=true∧K:=by
 cases b with
 |true=>exact⟨rfl,h⟩
 |false=>exact h.elim
def forceL:List Nat->(List Nat->Prop)->Prop
 | [],K=>K []
 |x::r,K=>forceL r fun r'=>K (x::r')
theorem Z4d:∀ {l:List Nat} {K:List Nat->Prop},forceL l K=K l
 | [],_=>rfl
 |x::r,K=>by rw[forceL,Z4d]
def callK(P:Program)(ev:Operand->AV)(ob:Nat->Option AObj)(args:List Operand)(g:FuncId)(caps:List AV)(K:AV->Upd->Prop):Prop:=
 ∃res,AC P g (lentArgs ev ob args caps) [] (.pv res) []∧
  match lentRefs ev args caps with
  | []=>K (.pv res) []
  |_=>match flatP res with
   |true=>K (.pv res) []
   |false=>forceL (lentRefs ev args caps) fun L=>K (.pv res) (goneL L)
def callOwnK(P:Program)(ev:Operand->AV)(ob:Nat->Option AObj)(args:List Operand)(g:FuncId)(caps:List AV)(id:Nat)(K:AV->Upd->Prop):Prop:=
 ∃size n r,AC P g (lentArgs ev ob args caps) [] (.own 0) [(0,.row size n r)]∧chk (!(lentRefs ev args caps).contains id) (chk (ob id).isNone (forceL (lentRefs ev args caps) fun L=>K (.own id) ((id,.row size n r)::goneL L)))
def callObjK(P:Program)(ev:Operand->AV)(ob:Nat->Option AObj)(args:List Operand)(g:FuncId)(caps:List AV)(K:AV->Upd->Prop):Prop:=
 match lentRefs ev args caps with
 |l::_=>match ob l with
  |some o1=>chk (liveO (some o1)) (chk (refsO o1).isEmpty (match handL l (args.map ev++caps)with
   |some ys=>∃(o2:AObj) (res:PV),AC P g ys [(0,o1)] (.pv res) [(0,o2)]∧chk (liveO (some o2)) (chk (refsO o2).isEmpty (K (.pv res) [(l,o2)]))
   |none=>False))
  |none=>False
 | []=>False
def frzL(ob:Nat->Option AObj):List AV->List Nat
 | []=>[]
 | .own l::r=>match ob l with
  |some (.row _ _ _)=>l::frzL ob r
  |_=>frzL ob r
 | .ref l::r=>match ob l with
  |some (.map _ _)=>l::frzL ob r
  |_=>frzL ob r
 | .mix cs::r=>match pvL (cs.map (frz1 ob))with
  |some _=>refs.refsL cs++frzL ob r
  |none=>frzL ob r
 |_::r=>frzL ob r
def frzK(ob:Nat->Option AObj)(xs:List AV)(K:AV->Upd->Prop)(F:(AV->Upd->Prop)->Prop):Prop:=
 match frzL ob xs with
 | []=>F K
 |l::r=>forceL r fun r=>chk ((l::r).all fun l=>xs.all fun x=>!(refs (frzV ob x)).contains l) (F fun v u=>chk ((l::r).all fun l=>(getO u l).isNone) (K v (u++goneL (l::r))))
def srcK(ob:Nat->Option AObj)(y:AV)(F:Nat->Nat->(Nat->List PV)->Prop):Prop:=
 match y with
 | .pv (.ro s m g)=>F s m g
 | .pv (.nn (.ro s m g))=>F s m g
 | .own l=>match ob l with
  |some (.row s m g)=>F s m g
  |_=>False
 |_=>False
def mapK(ob:Nat->Option AObj)(x:AV)(F:KK->(Value->Option PV)->Prop):Prop:=
 match x with
 | .pv (.map kk look)=>F kk look
 | .ref l=>match ob l with
  |some (.map kk look)=>F kk look
  |_=>False
 |_=>False
def leafB:Leaf->Value->Bool
 | .int k,.int k' _=>ikEq k k'
 | .str,.string _=>true
 | .bool,.bool _=>true
 |_,_=>false
def leafEqB:Leaf->Leaf->Bool
 | .int k,.int k'=>ikEq k k'
 | .str,.str=>true
 | .bool,.bool=>true
 |_,_=>false
def kkEq:KK->KK->Bool
 | .one l,.one l'=>leafEqB l l'
 | .agg a,.agg b=>leavesEq a b
 |_,_=>false
def valsK:List PV->List Leaf->(List Value->Prop)->Prop
 | [],[],F=>F []
 | .val v::cs,l::ls,F=>chk (leafB l v) (valsK cs ls fun vs=>F (v::vs))
 |_,_,_=>False
def keyK(kk:KK)(y:AV)(F:Value->Prop):Prop:=
 match kk with
 | .one l=>match y with
  | .pv (.val k)=>chk (leafB l k) (F k)
  |_=>False
 | .agg ls=>match y with
  | .pv (.agg cs)=>valsK cs ls fun vs=>F (.agg ⟨vs⟩)
  |_=>False
def arrLen(T:Tab)(t:TypeId)(n:Nat):Bool:=
 match T t with
 |some ty=>match ty.und with
  | .array m _=>Nat.beq m n&&ArrOf T t
  |_=>false
 |none=>false
def aopc(P:Program)(T:Tab)(o:Oper)(id:Nat)(ev:Operand->AV)(ob:Nat->Option AObj)(K:AV->Upd->Prop):Prop:=
 match o.op with
 | .move x=>force (ev x) fun v=>K v []
 | .assign x=>force (ev x) fun v=>K v []
 | .pick c a b=>match ev c with
  | .pv (.val (.bool t))=>(match t with|true=>force (ev a) fun v=>K v []|false=>force (ev b) fun v=>K v [])
  |c'=>match asB c',asB (ev a),asB (ev b)with
   |some t,some x,some y=>K (.pv (.sb (cond t x y))) []
   |_,_,_=>False
 | .alloc e=>match T e with
  |some ty=>match ty.info.zero with
   |some z=>chk (zok z) (chk (ob id).isNone (K (.ptr id 0) [(id,.pbox (z.cells.toList.map .val))]))
   |none=>False
  |none=>False
 | .box _ x=>match ev x with
  | .pv p=>chk (pone p) (chk (ob id).isNone (K (.ptr id 0) [(id,.pbox (pcells p))]))
  |_=>False
 | .load t x=>match T t with
  |some ty=>match ev x with
   | .ptr l off=>match ob l with
    |some (.pbox cs)=>loadP ty cs off fun p=>K (.pv p) []
    |_=>False
   | .pv (.cell cs)=>loadP ty cs 0 fun p=>K (.pv p) []
   | .eptr l size i j=>match ob l with
    |some (.row s n f)=>chk (Nat.beq s size) (i<n∧loadP ty (f i) j fun p=>K (.pv p) [])
    |_=>False
   |_=>False
  |none=>False
 | .store t x y=>match T t with
  |some ty=>frzK ob [ev x,ev y] K fun K=>match ev x with
   | .ptr l off=>match ob l with
    |some (.pbox cs)=>match frzV ob (ev y)with
     | .pv p=>chk (pone p) (chk (Nat.beq (pcells p).length ty.info.size) (chk (Nat.ble (off+(pcells p).length) cs.length) (K .junk [(l,.pbox (splice cs off (pcells p)))])))
     |_=>False
    |_=>False
   | .eptr l size i j=>match ob l with
    |some (.row s n f)=>match frzV ob (ev y)with
     | .pv p=>chk (Nat.beq s size) (chk (pone p) (chk (Nat.beq (pcells p).length ty.info.size) (chk (Nat.ble (j+(pcells p).length) size) (i<n∧K .junk [(l,.row s n (updAt f i j (pcells p)))]))))
     |_=>False
    |_=>False
   |_=>False
  |none=>False
 | .build t parts=>match T t with
  |some ty=>match ty.und with
   | .struct fs=>match ty.info.zero with
    |some (.agg zs)=>chk (zs.toList.all (·.oneCell')) (match placesOf T fs.toList with
     |some r=>frzK ob (parts.toList.map fun x=>ev x.2) K fun K=>bparts (r.toArray[·]?) (fun x=>frzV ob (ev x)) parts.toList (zs.toList.map .val) fun ds=>K (.pv (.agg ds)) []
     |none=>False)
    |_=>False
   |_=>False
  |none=>False
 | .buildSlice t len parts=>match T t with
  |some ty=>match ty.und with
   | .slice e=>match T e with
    |some ety=>match ety.info.zero with
     |some z=>match ety.info.size with
      |size=>chk (Nat.beq z.cells.size size) (chk (Nat.blt 0 size) (chk (z.cells.toList.all (·.oneCell')) (chk (Nat.ble (len*size) 65536) (chk (ob id).isNone
       (frzK ob (parts.toList.map fun x=>ev x.2) K fun K=>bparts (fun i=>some (i*size,size)) (fun x=>frzV ob (ev x)) parts.toList (zeroRow (z.cells.toList.map .val) len) fun ds=>
        K (.own id) [(id,.row size len (fun i=>(ds.drop (i*size)).take size))])))))
     |none=>False
    |none=>False
   |_=>False
  |none=>False
 | .index t x i=>match ev i with
  | .pv (.val (.int _ ix))=>match ev x with
   | .pv (.val (.string s))=>chk (isStrT T t) ((0<=ix∧ix<s.size)∧K (.pv (.val (.int .u8 (byteAt s ix.toNat)))) [])
   | .pv (.agg cs)=>chk (arrLen T t cs.length) ((0<=ix∧ix<cs.length)∧∃p,(∀q,cs[ix.toNat]? = some q->PSub q p)∧K (.pv p) [])
   |_=>False
  |_=>False
 | .makeFunc (.func f) ⟨[]⟩ caps=>K (.fn f (caps.toList.map ev)) []
 | .range t x=>match ev x with
  | .pv (.val (.string s))=>chk (isStrT T t) (chk (ob id).isNone (K (.ref id) [(id,.siter s 0)]))
  |_=>False
 | .next x true=>match ev x with
  | .ref l=>match ob l with
   |some (.siter s pos)=>(pos<s.size->K (.pv (.tup [.val (.bool true),.val (.int .i64 pos),.val (.int .i32 (Utf8.decode s pos).1)])) [(l,.siter s (pos+(Utf8.decode s pos).2))])∧(¬pos<s.size->K (.pv (.tup [.val (.bool false)])) [])
   |_=>False
  |_=>False
 | .makeMap t none=>match mapOf T t with
  |some (kk,_)=>chk (ob id).isNone (K (.ref id) [(id,.map kk fun _=>none)])
  |none=>False
 | .lookup t x y ok=>match mapOf T t with
  |some (kk0,z)=>mapK ob (ev x) fun kk look=>chk (kkEq kk0 kk) (keyK kk0 (ev y) fun k=>(∀p,look k=some p->K (.pv (lookRes ok z (some p))) [])∧(look k=none->K (.pv (lookRes ok z none)) []))
  |none=>False
 | .mapUpdate t x y q=>match mapOf T t with
  |some (kk0,_)=>match ev x with
   | .ref i=>match ob i with
    |some (.map kk look)=>match ev q with
     | .pv p=>chk (kkEq kk0 kk) (keyK kk0 (ev y) fun k=>K .junk [(i,.map kk (lookPut look k p))])
     |_=>False
    |_=>False
   |_=>False
  |none=>False
 | .field t x f=>match T t with
  |some ty=>match ty.und with
   | .struct fs=>match fs[f]? with
    |some fd=>match T fd.type with
     |some fty=>match ev x with
      | .pv (.agg cs)=>loadP fty cs fd.offset fun p=>K (.pv p) []
      |_=>False
     |none=>False
    |none=>False
   |_=>False
  |none=>False
 | .nilCheck x=>match ev x with
  | .ptr l off=>chk (liveO (ob l)) (K (.ptr l off) [])
  |_=>False
 | .slice t x none (some i) none=>match ev x with
  | .pv (.ro size n f)=>match ev i with
   | .pv (.val (.int _ h))=>chk (sliceOf T t size) ((0<=h∧h<=n)∧K (.pv (.ro size h.toNat f)) [])
   |_=>False
  |_=>False
 | .makeSlice t x y=>match ev x with
  | .pv (.val (.int _ n))=>match ev y with
   | .pv (.val (.int _ m))=>match zcellsOf T t with
    |some zs=>chk (elemOf T t zs.length) (chk (ob id).isNone ((0<=n∧n<=m∧m<=1073741824)∧K (.own id) [(id,.row zs.length n.toNat fun _=>zs)]))
    |none=>False
   |_=>False
  |_=>False
 | .fieldAddr s x f=>fieldOf T s f fun fo=>match ev x with
  | .ptr l off=>chk (liveO (ob l)) (K (.ptr l (off+fo)) [])
  | .pv (.cell cs)=>K (.pv (.cell (cs.drop fo))) []
  | .eptr l size i j=>chk (liveO (ob l)) (K (.eptr l size i (j+fo)) [])
  |_=>False
 | .indexAddr t x i=>match ev x with
  | .pv (.ro size n f)=>match ev i with
   | .pv (.val (.int _ ix))=>chk (sliceOf T t size) ((0<=ix∧ix<n)∧K (.pv (.cell (f ix.toNat))) [])
   |_=>False
  | .own l=>match ob l with
   |some (.row size n _)=>match ev i with
    | .pv (.val (.int _ ix))=>chk (sliceOf T t size) ((0<=ix∧ix<n)∧K (.eptr l size ix.toNat 0) [])
    |_=>False
   |_=>False
  |_=>False
 | .binOp op t x y _=>match ev x with
  | .pv (.val (.int k a))=>match ev y with
   | .pv (.val (.int k' b))=>chk (ikEq k k') (aint k a b op K)
   |_=>False
  | .pv (.val (.string a))=>match ev y with
   | .pv (.val (.string b))=>astr a b op K
   |_=>False
  | .pv (.agg xs)=>match ev y with
   | .pv (.agg ys)=>match op with
    | .eql=>chk (!(leavesOf T t).isEmpty) (leafEqs (leavesOf T t) xs ys fun r=>K (.pv (.sb r)) [])
    | .neq=>chk (!(leavesOf T t).isEmpty) (leafEqs (leavesOf T t) xs ys fun r=>K (.pv (.sb (!r))) [])
    |_=>False
   |_=>False
  | .pv (.nn _)=>match ev y with
   | .pv (.val (.slice none 0 0))=>match op with
    | .eql=>chk (isSliceT T t) (K (.pv (.val (.bool false))) [])
    | .neq=>chk (isSliceT T t) (K (.pv (.val (.bool true))) [])
    |_=>False
   |_=>False
  | .pv (.val (.slice none 0 0))=>match ev y with
   | .pv (.val (.slice none 0 0))=>match op with
    | .eql=>chk (isSliceT T t) (K (.pv (.val (.bool true))) [])
    | .neq=>chk (isSliceT T t) (K (.pv (.val (.bool false))) [])
    |_=>False
   |_=>False
  |v=>match asB v,asB (ev y)with
   |some a,some b=>match op with
    | .eql=>chk (isBoolT T t) (K (.pv (.sb (a == b))) [])
    | .neq=>chk (isBoolT T t) (K (.pv (.sb (!(a == b)))) [])
    |_=>False
   |_,_=>False
 | .unOp op _ x=>match op with
  | .not=>match asB (ev x)with
   |some a=>K (.pv (.sb (!a))) []
   |none=>False
  | .neg=>match ev x with
   | .pv (.val (.int k a))=>K (.pv (.val (.int k (k.wrap (0-a))))) []
   |_=>False
  |_=>False
 | .extract x i=>match ev x with
  | .pv (.tup cs)=>nth cs i fun p=>K (.pv p) []
  |_=>False
 | .convert s d x=>match intOfT T s,intOfT T d with
  |some _,some k2=>match ev x with
   | .pv (.val (.int _ n))=>K (.pv (.val (.int k2 (k2.wrap n)))) []
   |_=>False
  |_,_=>False
 | .call c=>match c.callee with
  | .value fo=>match ev fo with
   | .fn g caps=>callK P ev ob c.args.toList g caps K∨callOwnK P ev ob c.args.toList g caps id K∨callObjK P ev ob c.args.toList g caps K
   | .clo dom isB gb gi=>match pvL (c.args.toList.map ev)with
    |some xs=>dom xs∧K (.pv (cloRes isB gb gi xs)) []
    |none=>False
   |_=>False
  | .builtin b=>match b,c.args,c.argTypes with
   | .len,⟨[x]⟩,⟨[t]⟩=>match ev x with
    | .pv (.ro size n _)=>chk (sliceOf T t size) (K (.pv (.val (.int .i64 n))) [])
    | .pv (.val (.string s))=>chk (isStrT T t) (K (.pv (.val (.int .i64 s.size))) [])
    | .pv (.val (.slice none 0 _))=>chk (isSliceT T t) (K (.pv (.val (.int .i64 0))) [])
    | .own l=>match ob l with
     |some (.row size n _)=>chk (sliceOf T t size) (K (.pv (.val (.int .i64 n))) [])
     |_=>False
    |_=>False
   | .append,⟨[x,y]⟩,⟨[t,tx]⟩=>srcK ob (ev y) fun size m g=>chk (elemOf T t size) (chk (isSliceT T tx) (chk (ob id).isNone (match ev x with
    | .own l=>match ob l with
     |some (.row s n f)=>chk (Nat.beq s size) (chk (!(refs (ev y)).contains l) (n+m<=1073741824∧K (.own id) [(id,.row s (n+m) (fun k=>if k<n then f k else g (k-n))),(l,.gone)]))
     |_=>False
    | .pv .cap0=>m<=1073741824∧K (.own id) [(id,.row size m g)]
    | .pv (.val (.slice none 0 0))=>m<=1073741824∧K (.own id) [(id,.row size m g)]
    |_=>False)))
   | .min,⟨[x,y]⟩,_=>match ev x,ev y with
    | .pv (.val (.int k a)),.pv (.val (.int _ b))=>K (.pv (.val (.int k (if b<a then b else a)))) []
    |_,_=>False
   | .max,⟨[x,y]⟩,_=>match ev x,ev y with
    | .pv (.val (.int k a)),.pv (.val (.int _ b))=>K (.pv (.val (.int k (if a<b then b else a)))) []
    |_,_=>False
   |_,_,_=>False
  |_=>False
 |_=>False
def Fresh(o:Oper)(ev:Operand->AV)(ob:Nat->Option AObj)(u:Upd):Prop:=∀l,getO u l≠none->(∃x∈o.op.operands,l∈refs (ev x))∨ob l=none
theorem Fresh.nil{o:Oper}{ev:Operand->AV}{ob:Nat->Option AObj}:Fresh o ev ob []:=fun _ h=>(h rfl).elim
theorem Fresh.new{o:Oper}{ev:Operand->AV}{ob:Nat->Option AObj}{id:Nat}{x:AObj}(h:(ob id).isNone=true):Fresh o ev ob [(id,x)]:=fun l hl=>by
 rw[Z04]at hl
 split at hl
 ·rename_i e;subst e;exact .inr (by simpa using h)
 exact absurd rfl hl
theorem Fresh.old{o:Oper}{ev:Operand->AV}{ob:Nat->Option AObj}{id:Nat}{x:AObj}{y:Operand}(hy:y∈o.op.operands)(h:id∈refs (ev y)):Fresh o ev ob [(id,x)]:=fun k hl=>by
 rw[Z04]at hl
 split at hl
 ·rename_i e;subst e;exact .inl ⟨y,hy,h⟩
 exact absurd rfl hl
section
variable {P:Program} {T:Tab} {o:Oper} {ev:Operand->AV} {ob:Nat->Option AObj} {K:AV->Upd->Prop}
theorem Za4{fo:Operand}{args:Array Operand}{ts:Array TypeId}{g:FuncId}{caps:List AV}(ho:o.op = .call { callee:=.value fo,args:=args,argTypes:=ts })(hf:ev fo = .fn g caps) :
  ∀l∈lentRefs ev args.toList caps,∃x∈o.op.operands,l∈refs (ev x):=by
 intro l hl;have key:∀(xs:List AV),l∈refs.refsL xs->∃x∈xs,l∈refs x:=by
  intro xs
  induction xs with
  |nil=>intro h;simp[refs.refsL]at h
  |cons x xs ih=>
   intro h;simp only[refs.refsL,qo]at h;rcases h with h|h
   ·exact⟨x,by simp,h⟩
   obtain⟨y,hy,hh⟩:=ih h;exact⟨y,by simp[hy],hh⟩
 obtain⟨x,hx,hlx⟩:=key _ hl;simp only[qo,List.mem_map]at hx;rcases hx with⟨y,hy,rfl⟩|hx
 ·exact⟨y,by simp[ho,Op.operands,Call.operands];exact .inr (by simpa using hy),hlx⟩
 obtain⟨i,hi⟩:=List.getElem?_of_mem hx;exact⟨fo,by simp[ho,Op.operands,Call.operands],by rw[hf];simp only[refs];exact Z07 hi l hlx⟩
theorem Zdd{fo:Operand}{args:Array Operand}{ts:Array TypeId}{g:FuncId}{caps:List AV}(ho:o.op = .call { callee:=.value fo,args:=args,argTypes:=ts })(hf:ev fo = .fn g caps)(h:callK P ev ob args.toList g caps K) :
  ∃v u,K v u∧Step P o ev ob u v∧Fresh o ev ob u:=by
 obtain⟨res,hAC,h⟩:=h
 split at h
 ·rename_i e;exact⟨_,_,h,Zbb true ho hf hAC (fun _=>.inr e),.nil⟩
 split at h
 ·rename_i e;exact⟨_,_,h,Zbb true ho hf hAC (fun _=>.inl e),.nil⟩
 rw[Z4d]at h;refine⟨_,_,h,Zbb false ho hf hAC (by simp),fun l hl=>?_⟩;rw[Z1o]at hl
 split at hl
 ·rename_i e;exact .inl (Za4 ho hf l e)
 exact absurd rfl hl
theorem Z9n:∀ {xs:List AV},∀x∈xs,∀l∈refs x,l∉refs (frzV ob x)->l∈frzL ob xs
 |y::xs,x,hx,l,hl,hn=>by
  rcases qk.1 hx with rfl|hx
  ·cases x with
   |own k=>
    simp only[refs,List.mem_singleton]at hl;subst hl;simp only[frzL];split
    ·simp
    rename_i hne;exfalso;apply hn;simp only[frzV];simp[refs]
   |ref k=>
    simp only[refs,List.mem_singleton]at hl;subst hl;simp only[frzL];split
    ·simp
    rename_i hne;exfalso;apply hn;simp only[frzV];simp[refs]
   |mix cs=>
    simp only[frzL];simp only[frzV]at hn
    split at hn
    ·rename_i ps hps
     try rw[hps]
     exact qo.2 (.inl hl)
    exact absurd hl hn
   |_=>exact absurd hl hn
  have ih:=Z9n (xs:=xs) x hx l hl hn;cases y<;>simp only[frzL]<;>(try split)<;>simp[ih]
theorem Z9o:∀ {xs:List AV} {l:Nat},l∈frzL ob xs->∃x∈xs,l∈refs x
 |y::xs,l,h=>by
  have go:l∈frzL ob xs->∃x∈y::xs,l∈refs x:=fun h=>by
   obtain⟨x,hx,hl⟩:=Z9o h;exact⟨x,by simp[hx],hl⟩
  cases y with
  |own k=>
   simp only[frzL]at h
   split at h
   ·rcases qk.1 h with rfl|h
    ·exact⟨.own l,by simp,by simp[refs]⟩
    exact go h
   exact go h
  |ref k=>
   simp only[frzL]at h
   split at h
   ·rcases qk.1 h with rfl|h
    ·exact⟨.ref l,by simp,by simp[refs]⟩
    exact go h
   exact go h
  |mix cs=>
   simp only[frzL]at h
   split at h
   ·rcases qo.1 h with h|h
    ·exact⟨.mix cs,by simp,by simpa[refs]using h⟩
    exact go h
   exact go h
  |_=>simp only[frzL]at h;exact go h
theorem Z72{xs:List AV}{F:(AV->Upd->Prop)->Prop}(h:frzK ob xs K F)(hxs:∀x∈o.op.operands,ev x∈xs)(hsub:∀y∈xs,∃x∈o.op.operands,ev x=y)
  (hF:∀K',F K'->∃v u,K' v u∧Step P o (fun x=>frzV ob (ev x)) ob u v∧Fresh o (fun x=>frzV ob (ev x)) ob u):∃v u,K v u∧Step P o ev ob u v∧Fresh o ev ob u:=by
 have key:=Z9n (ob:=ob) (xs:=xs);have hre:=fun l=>Z9o (ob:=ob) (xs:=xs) (l:=l)
 unfold frzK at h;generalize hfl:frzL ob xs=L at h key hre;cases L with
 |nil=>
  obtain⟨v,u,hK,hS,hFr⟩:=hF K h;have:=hS.frz (L:=[]) (fun x hx l hl hn=>key _ (hxs x hx) l hl hn) (fun l hl=>by simp at hl) (fun l hl=>by simp at hl);exact⟨v,u,hK,by simpa[goneL]using this,fun l hl=>(hFr l hl).imp (fun⟨x,hx,hm⟩=>⟨x,hx,Z4f hm⟩) id⟩
 |cons l r=>
  simp only[Z4d]at h;obtain⟨h1,h⟩:=Z02 h;obtain⟨v,u,hK,hS,hFr⟩:=hF _ h;obtain⟨h2,hK⟩:=Z02 hK;refine⟨v,u++goneL (l::r),hK,hS.frz (L:=l::r) (fun x hx k hl hn=>key _ (hxs x hx) k hl hn) (fun k hk x hx hm=>?_) (fun k hk=>by simpa using qz.1 h2 k hk),fun k hk=>?_⟩
  ·have:=qz.1 (qz.1 h1 k hk) (ev x) (hxs x hx);simp at this;exact this hm
  rw[Z74]at hk
  split at hk
  ·rename_i y e;exact(hFr k (by rw[e];simp)).imp (fun⟨x,hx,hm⟩=>⟨x,hx,Z4f hm⟩) id
  split at hk
  ·rename_i hm;obtain⟨y,hy,hl⟩:=hre k hm;obtain⟨x,hx,rfl⟩:=hsub y hy;exact .inl ⟨x,hx,hl⟩
  exact absurd rfl hk
theorem Zum{y:AV}{F:Nat->Nat->(Nat->List PV)->Prop}(h:srcK ob y F):∃s m g,F s m g∧SrcArg ob y s m g∧∀l∈refs y,ob l≠none:=by
 unfold srcK at h
 split at h
 ·exact⟨_,_,_,h,.inl rfl,fun l hl=>by simp[refs]at hl⟩
 ·exact⟨_,_,_,h,.inr (.inl rfl),fun l hl=>by simp[refs]at hl⟩
 ·split at h
  ·rename_i hob;exact⟨_,_,_,h,.inr (.inr (.inl ⟨_,rfl,hob⟩)),fun l hl=>by simp[refs]at hl;subst hl;rw[hob];simp⟩
  exact h.elim
 exact h.elim
theorem Zrl{x:AV}{F:KK->(Value->Option PV)->Prop}(h:mapK ob x F):∃kk look,F kk look∧MapArg ob x kk look:=by
 unfold mapK at h
 split at h
 ·exact⟨_,_,h,.inl rfl⟩
 ·split at h
  ·rename_i hob;exact⟨_,_,h,.inr ⟨_,rfl,hob⟩⟩
  exact h.elim
 exact h.elim
theorem Zfs{l:Leaf}{v:Value}(h:leafB l v=true):l.has v:=by
 unfold leafB at h
 split at h
 ·rw[Z3f h];exact⟨_,rfl⟩
 ·exact⟨_,rfl⟩
 ·exact⟨_,rfl⟩
 cases h
theorem Zr3{l l':Leaf}(h:leafEqB l l'=true):l=l':=by
 unfold leafEqB at h
 split at h
 ·rw[Z3f h]
 ·rfl
 ·rfl
 cases h
theorem Za3{a b:KK}(h:kkEq a b=true):a=b:=by
 unfold kkEq at h
 split at h
 ·rw[Zr3 h]
 ·rw[Z5k h]
 cases h
theorem Zis:∀ {cs:List PV} {ls:List Leaf} {F:List Value->Prop},valsK cs ls F->∃vs:List Value,F vs∧cs=vs.map .val∧vs.length=ls.length∧∀(i:Nat) (l:Leaf),ls[i]? = some l->l.has (vs.getD i undef)
 | [],[],F,h=>⟨[],h,rfl,rfl,fun i l e=>by simp at e⟩
 |c::cs,l::ls,F,h=>by
  cases c with
  |val v=>
   simp only[valsK]at h;obtain⟨h1,h⟩:=Z02 h;obtain⟨vs,hF,rfl,hl,hh⟩:=Zis h;refine⟨v::vs,hF,rfl,by simp[hl],fun i l' e=>?_⟩;cases i with
   |zero=>simp at e;subst e;simpa using Zfs h1
   |succ i=>simpa using hh i l' (by simpa using e)
  |_=>simp[valsK]at h
 | [],_::_,F,h=>by simp[valsK]at h
 |c::_,[],F,h=>by cases c<;>simp[valsK]at h
theorem Za1{kk:KK}{y:AV}{F:Value->Prop}(h:keyK kk y F):∃k,F k∧KeyArg kk y k:=by
 unfold keyK at h
 split at h
 ·split at h
  ·obtain⟨h1,h⟩:=Z02 h;exact⟨_,h,rfl,Zfs h1⟩
  exact h.elim
 split at h
 ·obtain⟨vs,hF,rfl,hl,hh⟩:=Zis h;exact⟨_,hF,vs,rfl,rfl,hl,hh⟩
 exact h.elim
theorem Zam:∀ {l:List AV} {xs:List PV},pvL l=some xs->l=xs.map .pv
 | [],xs,h=>by cases h;rfl
 | .pv p::r,xs,h=>by
  simp only[pvL]at h
  split at h
  ·rename_i e;cases h;rw[Zam e];rfl
  cases h
 | .junk::_,_,h=>by cases h
 | .ptr _ _::_,_,h=>by cases h
 | .eptr _ _ _ _::_,_,h=>by cases h
 | .own _::_,_,h=>by cases h
 | .ref _::_,_,h=>by cases h
 | .fn _ _::_,_,h=>by cases h
 | .clo _ _ _ _::_,_,h=>by cases h
theorem Zdf{d:Nat}{fo:Operand}{args:Array Operand}{ts:Array TypeId}{g:FuncId}{caps:List AV}(ho:o.op = .call { callee:=.value fo,args:=args,argTypes:=ts })(hf:ev fo = .fn g caps)(h:callOwnK P ev ob args.toList g caps d K) :
  ∃v u,K v u∧Step P o ev ob u v∧Fresh o ev ob u:=by
 obtain⟨size,n,r,hAC,h⟩:=h;obtain⟨h1,h⟩:=Z02 h;obtain⟨h2,h⟩:=Z02 h;have h1:d∉lentRefs ev args.toList caps:=by simpa using h1
 rw[Z4d]at h;refine⟨_,_,h,Zv3 ho hf hAC h1,fun l hl=>?_⟩;rw[Z2h]at hl
 split at hl
 ·rename_i e;subst e;exact .inr (by simpa using h2)
 rw[Z1o]at hl
 split at hl
 ·rename_i e;exact .inl (Za4 ho hf l e)
 exact absurd rfl hl
theorem Zde{fo:Operand}{args:Array Operand}{ts:Array TypeId}{g:FuncId}{caps:List AV}(ho:o.op = .call { callee:=.value fo,args:=args,argTypes:=ts })(hf:ev fo = .fn g caps)(h:callObjK P ev ob args.toList g caps K) :
  ∃v u,K v u∧Step P o ev ob u v∧Fresh o ev ob u:=by
 unfold callObjK at h
 split at h
 ·rename_i l r hl
  split at h
  ·rename_i o1 hob;obtain⟨h1,h⟩:=Z02 h;obtain⟨h2,h⟩:=Z02 h
   split at h
   ·rename_i ys hys;obtain⟨o2,res,hAC,h⟩:=h;obtain⟨h3,h⟩:=Z02 h;obtain⟨h4,h⟩:=Z02 h;have hm:l∈lentRefs ev args.toList caps:=by rw[hl];simp
    refine⟨_,_,h,Zv2 ho hf hob h1 h3 (by simpa using h2) (by simpa using h4) hys hm hAC,fun k hk=>?_⟩;rw[Z04]at hk
    split at hk
    ·rename_i e;subst e;exact .inl (Za4 ho hf l hm)
    exact absurd rfl hk
   exact h.elim
  exact h.elim
 exact h.elim
theorem Zo0(hT:T.ok P){d:Nat}(h:aopc P T o d ev ob K):∃v u,K v u∧Step P o ev ob u v∧Fresh o ev ob u:=by
 unfold aopc at h
 split at h
 ·rename_i x ho;rw[Z2x]at h;exact⟨_,_,h,Z7u (.inl ho),.nil⟩
 ·rename_i x ho;rw[Z2x]at h;exact⟨_,_,h,Z7u (.inr ho),.nil⟩
 ·rename_i c a b ho
  split at h
  ·rename_i t hc;cases t with
   |true=>simp only at h;rw[Z2x]at h;exact⟨_,_,h,Zif (t:=true) ho (by rw[hc];rfl),.nil⟩
   |false=>simp only at h;rw[Z2x]at h;exact⟨_,_,h,Zif (t:=false) ho (by rw[hc];rfl),.nil⟩
  split at h
  ·rename_i t x y h1 h2 h3;exact⟨_,_,h,Zwd ho h1 h2 h3,.nil⟩
  exact h.elim
 ·rename_i e ho
  split at h
  ·rename_i ty ht
   split at h
   ·rename_i z hz;obtain⟨h1,h⟩:=Z02 h;obtain⟨h2,h⟩:=Z02 h;exact⟨_,_,h,Zur hT ho ht hz h1,.new h2⟩
   exact h.elim
  exact h.elim
 ·rename_i e x ho
  split at h
  ·rename_i p hx;obtain⟨h1,h⟩:=Z02 h;obtain⟨h2,h⟩:=Z02 h;exact⟨_,_,h,Zuv ho hx h1,.new h2⟩
  exact h.elim
 ·rename_i t x ho
  split at h
  ·rename_i ty ht
   split at h
   ·rename_i l off hx
    split at h
    ·rename_i cs hob;obtain⟨p,hK,hp⟩:=Z5l h;exact⟨_,_,hK,Zvz hT ho ht hx hob hp,.nil⟩
    exact h.elim
   ·rename_i cs hx;obtain⟨p,hK,hp⟩:=Z5l h;exact⟨_,_,hK,Zvx hT ho ht hx hp,.nil⟩
   ·rename_i l size i j hx
    split at h
    ·rename_i s n f hob;obtain⟨h1,h2,h⟩:=Z02 h;obtain⟨p,hK,hp⟩:=Z5l h;have:=qg h1;subst this;exact⟨_,_,hK,Zvy hT ho ht hx hob h2 hp,.nil⟩
    exact h.elim
   exact h.elim
  exact h.elim
 ·rename_i t x y ho
  split at h
  ·rename_i ty ht;refine Z72 h (fun z hz=>?_) (fun z hz=>?_) fun K h=>?_
   ·simp[ho,Op.operands]at hz;rcases hz with rfl|rfl<;>simp
   ·simp at hz;rcases hz with rfl|rfl
    ·exact⟨x,by simp[ho,Op.operands],rfl⟩
    exact⟨y,by simp[ho,Op.operands],rfl⟩
   split at h
   ·rename_i l off hx
    split at h
    ·rename_i cs hob
     split at h
     ·rename_i p hy;obtain⟨h1,h⟩:=Z02 h;obtain⟨h2,h⟩:=Z02 h;obtain⟨h3,h⟩:=Z02 h;exact⟨_,_,h,Zwj hT ho ht (by simp only[hx];rfl) hob hy h1 (qg h2) (qi h3),.old (y:=x) (by simp[ho,Op.operands]) (by simp[hx,frzV,refs])⟩
     exact h.elim
    exact h.elim
   ·rename_i l size i j hx
    split at h
    ·rename_i s n f hob
     split at h
     ·rename_i p hy;obtain⟨h0,k1⟩:=Z02 h;obtain⟨h1,k2⟩:=Z02 k1;obtain⟨h2,k3⟩:=Z02 k2;obtain⟨h3,h4,k4⟩:=Z02 k3;have h0:=qg h0;subst h0;exact⟨_,_,k4,Zwk hT ho ht (by simp only[hx];rfl) hob hy h1 (qg h2) h4 (qi h3),.old (y:=x) (by simp[ho,Op.operands]) (by simp[hx,frzV,refs])⟩
     exact h.elim
    exact h.elim
   exact h.elim
  exact h.elim
 ·rename_i t parts ho
  split at h
  ·rename_i ty ht
   split at h
   ·rename_i fs hfs
    split at h
    ·rename_i zs hz;obtain⟨h1,h⟩:=Z02 h
     split at h
     ·rename_i r hr;have hmem:∀z,z∈o.op.operands↔∃i,(i,z)∈parts.toList:=fun z=>by
       rw[ho];unfold Op.operands;simp only[List.mem_toArray,List.mem_map];exact⟨fun⟨⟨i,y⟩,hy,e⟩=>⟨i,e▸hy⟩,fun⟨i,hy⟩=>⟨(i,z),hy,rfl⟩⟩
      refine Z72 h (fun z hz=>?_) (fun z hz=>?_) fun K h=>?_
      ·obtain⟨i,hi⟩:=(hmem z).1 hz;exact List.mem_map.2 ⟨(i,z),hi,rfl⟩
      ·obtain⟨⟨i,y⟩,hy,rfl⟩:=List.mem_map.1 hz;exact⟨y,(hmem y).2 ⟨i,hy⟩,rfl⟩
      obtain⟨ds,hK,hB⟩:=Z98 h;exact⟨_,_,hK,Zux hT ho ht hfs hz h1 hr hB,.nil⟩
     exact h.elim
    exact h.elim
   exact h.elim
  exact h.elim
 ·rename_i t len parts ho
  split at h
  ·rename_i ty ht
   split at h
   ·rename_i e he
    split at h
    ·rename_i ety hety
     split at h
     ·rename_i z hz;simp only at h;obtain⟨h1,h⟩:=Z02 h;obtain⟨h2,h⟩:=Z02 h;obtain⟨h3,h⟩:=Z02 h;obtain⟨h4,h⟩:=Z02 h;obtain⟨h5,h⟩:=Z02 h;have hmem:∀z,z∈o.op.operands↔∃i,(i,z)∈parts.toList:=fun z=>by
       rw[ho];unfold Op.operands;simp only[List.mem_toArray,List.mem_map];exact⟨fun⟨⟨i,y⟩,hy,e⟩=>⟨i,e▸hy⟩,fun⟨i,hy⟩=>⟨(i,z),hy,rfl⟩⟩
      refine Z72 h (fun z hz=>?_) (fun z hz=>?_) fun K h=>?_
      ·obtain⟨i,hi⟩:=(hmem z).1 hz;exact List.mem_map.2 ⟨(i,z),hi,rfl⟩
      ·obtain⟨⟨i,y⟩,hy,rfl⟩:=List.mem_map.1 hz;exact⟨y,(hmem y).2 ⟨i,hy⟩,rfl⟩
      obtain⟨ds,hK,hB⟩:=Z98 h;exact⟨_,_,hK,Zuy hT ho ht he hety hz h1 (qi h2) h3 h4 hB,.new h5⟩
     exact h.elim
    exact h.elim
   exact h.elim
  exact h.elim
 ·rename_i t x i ho
  split at h
  ·rename_i k ix hi
   split at h
   ·rename_i s hx;obtain⟨h1,⟨h2,h3⟩,h⟩:=Z02 h;exact⟨_,_,h,Zvl hT ho hx hi h1 h2 h3,.nil⟩
   ·rename_i cs hx;obtain⟨h1,⟨h2,h3⟩,p,hp,h⟩:=Z02 h;have h4:ArrOf T t=true∧∀ty,T t=some ty->∀n e,ty.und = .array n e->n=cs.length:=by
     unfold arrLen at h1
     split at h1
     ·rename_i ty hty
      split at h1
      ·rename_i m e he;simp only[qc]at h1;refine⟨h1.2,fun ty' h5 n e' h6=>?_⟩;rw[hty]at h5;cases h5;rw[he]at h6;cases h6;exact qg h1.1
      cases h1
     cases h1
    exact⟨_,_,h,Zvh hT ho hx hi h4.1 h4.2 h2 h3 hp,.nil⟩
   exact h.elim
  exact h.elim
 ·rename_i f caps ho;exact⟨_,_,h,Zw1 ho,.nil⟩
 ·rename_i t x ho
  split at h
  ·rename_i s hx;obtain⟨h1,h⟩:=Z02 h;obtain⟨h2,h⟩:=Z02 h;exact⟨_,_,h,Zwe hT ho hx h1,.new h2⟩
  exact h.elim
 ·rename_i x ho
  split at h
  ·rename_i l hx
   split at h
   ·rename_i s pos hob
    by_cases hlt:pos<s.size
    ·exact⟨_,_,h.1 hlt,Zwa ho hx hob hlt,.old (y:=x) (by simp[ho,Op.operands]) (by simp[hx,refs])⟩
    exact⟨_,_,h.2 hlt,Zw9 ho hx hob hlt,.nil⟩
   exact h.elim
  exact h.elim
 ·rename_i t ho
  split at h
  ·rename_i kk z hm;obtain⟨h1,h⟩:=Z02 h;exact⟨_,_,h,Zw3 ho,.new h1⟩
  exact h.elim
 ·rename_i t x y ok ho
  split at h
  ·rename_i kk0 z hm;obtain⟨kk,look,h,hx⟩:=Zrl h;obtain⟨h1,k1⟩:=Z02 h;have:=Za3 h1;subst this;obtain⟨k,k2,hy⟩:=Za1 k1;have hS:=Zw0 hT ho hm hx hy;cases hl:look k with
   |none=>rw[hl]at hS;exact⟨_,_,k2.2 hl,hS,.nil⟩
   |some p=>rw[hl]at hS;exact⟨_,_,k2.1 p hl,hS,.nil⟩
  exact h.elim
 ·rename_i t x y q ho
  split at h
  ·rename_i kk0 z hm
   split at h
   ·rename_i i hx
    split at h
    ·rename_i kk look hob
     split at h
     ·rename_i p hq;obtain⟨h1,k1⟩:=Z02 h;have:=Za3 h1;subst this;obtain⟨k,k2,hy⟩:=Za1 k1;exact⟨_,_,k2,Zw5 hT ho hm hx hob hy hq,.old (y:=x) (by simp[ho,Op.operands]) (by simp[hx,refs])⟩
     exact h.elim
    exact h.elim
   exact h.elim
  exact h.elim
 ·rename_i t x f ho
  split at h
  ·rename_i ty ht
   split at h
   ·rename_i fs hfs
    split at h
    ·rename_i fd hfd
     split at h
     ·rename_i fty hft
      split at h
      ·rename_i cs hx;obtain⟨p,hK,hp⟩:=Z5l h;exact⟨_,_,hK,Zv9 (ft:=0) (fo:=0) hT ho hx ht hfs hfd hft hp,.nil⟩
      exact h.elim
     exact h.elim
    exact h.elim
   exact h.elim
  exact h.elim
 ·rename_i x ho
  split at h
  ·rename_i l off hx;obtain⟨h1,h⟩:=Z02 h;exact⟨_,_,h,Zwb ho hx h1,.nil⟩
  exact h.elim
 ·rename_i t x i ho
  split at h
  ·rename_i size n f hx
   split at h
   ·rename_i k ix hi;obtain⟨h1,⟨h2,h3⟩,h⟩:=Z02 h;exact⟨_,_,h,Zwi hT ho hx hi (Z27 h1) h2 h3,.nil⟩
   exact h.elim
  exact h.elim
 ·rename_i t x y ho
  split at h
  ·rename_i k n hx
   split at h
   ·rename_i k' m hy
    split at h
    ·rename_i zs hz;obtain⟨h1,h⟩:=Z02 h;obtain⟨h2,⟨h3,h4,h5⟩,h⟩:=Z02 h;exact⟨_,_,h,Zw4 hT ho hx hy h1 hz h3 h4 h5,.new h2⟩
    exact h.elim
   exact h.elim
  exact h.elim
 ·rename_i s x f ho;obtain⟨fo,h,hf⟩:=Zpl h
  split at h
  ·rename_i l off hx;obtain⟨h1,h⟩:=Z02 h;exact⟨_,_,h,Zvb hT ho hx hf h1,.nil⟩
  ·rename_i cs hx;exact⟨_,_,h,Zva hT ho hx hf,.nil⟩
  ·rename_i l size i j hx;obtain⟨h1,h⟩:=Z02 h;exact⟨_,_,h,Zvc hT ho hx hf h1,.nil⟩
  exact h.elim
 ·rename_i t x i ho
  split at h
  ·rename_i size n f hx
   split at h
   ·rename_i k ix hi;obtain⟨h1,⟨h2,h3⟩,h⟩:=Z02 h;exact⟨_,_,h,Zvk hT ho hx hi (Z27 h1) h2 h3,.nil⟩
   exact h.elim
  ·rename_i l hx
   split at h
   ·rename_i size n f hob
    split at h
    ·rename_i k ix hi;obtain⟨h1,⟨h2,h3⟩,h⟩:=Z02 h;exact⟨_,_,h,Zvi hT ho hx hob hi (Z27 h1) h2 h3,.nil⟩
    exact h.elim
   exact h.elim
  exact h.elim
 ·rename_i op t x y t' ho
  split at h
  ·rename_i k a hx
   split at h
   ·rename_i k' b hy;obtain⟨h1,h'⟩:=Z02 h;have:=Z3f h1;subst this;obtain⟨p,hK,hp⟩:=Zns h';exact⟨_,_,hK,Zvm ho hx hy hp,.nil⟩
   exact h.elim
  ·rename_i a hx
   split at h
   ·rename_i b hy;obtain⟨p,hK,hp⟩:=Zo3 h;exact⟨_,_,hK,Zwl ho hx hy hp,.nil⟩
   exact h.elim
  ·rename_i xs hx
   split at h
   ·rename_i ys hy
    split at h
    ·obtain⟨h1,h⟩:=Z02 h;obtain⟨r,hK,hr⟩:=Zft h;refine⟨_,_,?_,Zie (neg:=false) hT (by simpa using ho) (by simpa using h1) hx hy hr,.nil⟩;simpa using hK
    ·obtain⟨h1,h⟩:=Z02 h;obtain⟨r,hK,hr⟩:=Zft h;refine⟨_,_,?_,Zie (neg:=true) hT (by simpa using ho) (by simpa using h1) hx hy hr,.nil⟩;simpa using hK
    exact h.elim
   exact h.elim
  ·rename_i p hx
   split at h
   ·rename_i hy
    split at h
    ·obtain⟨h1,h⟩:=Z02 h;refine⟨_,_,?_,Z7t (neg:=false) (r:=false) hT (by simpa using ho) h1 hy (.inl ⟨p,hx,rfl⟩),.nil⟩;simpa using h
    ·obtain⟨h1,h⟩:=Z02 h;refine⟨_,_,?_,Z7t (neg:=true) (r:=false) hT (by simpa using ho) h1 hy (.inl ⟨p,hx,rfl⟩),.nil⟩;simpa using h
    exact h.elim
   exact h.elim
  ·rename_i hx
   split at h
   ·rename_i hy
    split at h
    ·obtain⟨h1,h⟩:=Z02 h;refine⟨_,_,?_,Z7t (neg:=false) (r:=true) hT (by simpa using ho) h1 hy (.inr ⟨hx,rfl⟩),.nil⟩;simpa using h
    ·obtain⟨h1,h⟩:=Z02 h;refine⟨_,_,?_,Z7t (neg:=true) (r:=true) hT (by simpa using ho) h1 hy (.inr ⟨hx,rfl⟩),.nil⟩;simpa using h
    exact h.elim
   exact h.elim
  split at h
  ·rename_i a b h1 h2
   split at h
   ·obtain⟨h3,h⟩:=Z02 h;refine⟨_,_,?_,Zic (neg:=false) hT (by simpa using ho) h3 h1 h2,.nil⟩;simpa using h
   ·obtain⟨h3,h⟩:=Z02 h;refine⟨_,_,?_,Zic (neg:=true) hT (by simpa using ho) h3 h1 h2,.nil⟩;simpa using h
   exact h.elim
  exact h.elim
 ·rename_i op t x ho
  split at h
  ·split at h
   ·rename_i a hx;exact⟨_,_,h,Zwc ho hx,.nil⟩
   exact h.elim
  ·split at h
   ·rename_i k a hx;exact⟨_,_,h,Zw8 ho hx,.nil⟩
   exact h.elim
  exact h.elim
 ·rename_i x i ho
  split at h
  ·rename_i cs hx;obtain⟨p,hp,hK⟩:=Zad h;exact⟨_,_,hK,Zv8 ho hx hp,.nil⟩
  exact h.elim
 ·rename_i s d x ho
  split at h
  ·rename_i k1 k2 h1 h2
   split at h
   ·rename_i k n hx;exact⟨_,_,h,Zv5 hT ho h1 h2 hx,.nil⟩
   exact h.elim
  exact h.elim
 ·rename_i c ho;obtain⟨callee,args,ts⟩:=c;simp only at h
  split at h
  ·rename_i fo
   split at h
   ·rename_i g caps hf;rcases h with h|h
    ·exact Zdd ho hf h
    rcases h with h|h
    ·exact Zdf ho hf h
    exact Zde ho hf h
   ·rename_i dom isB gb gi hf
    split at h
    ·rename_i xs hxs;exact⟨_,_,h.2,Zv0 ho hf (Zam hxs) h.1,.nil⟩
    exact h.elim
   exact h.elim
  ·rename_i b
   split at h
   ·rename_i x t
    split at h
    ·rename_i size n f hx;obtain⟨h1,h⟩:=Z02 h;exact⟨_,_,h,Zvt hT ho hx (Z27 h1),.nil⟩
    ·rename_i s hx;obtain⟨h1,h⟩:=Z02 h;exact⟨_,_,h,Zvu hT ho hx h1,.nil⟩
    ·rename_i c hx;obtain⟨h1,h⟩:=Z02 h;obtain⟨size,hs⟩:=Z78 h1;exact⟨_,_,h,Zvq hT ho hx hs,.nil⟩
    ·rename_i l hx
     split at h
     ·rename_i size n f hob;obtain⟨h1,h⟩:=Z02 h;exact⟨_,_,h,Zvr hT ho hx hob (Z27 h1),.nil⟩
     exact h.elim
    exact h.elim
   ·rename_i x y t tx;obtain⟨size,m,g,h,hy,hr⟩:=Zum h;obtain⟨h1,h⟩:=Z02 h;obtain⟨h2,h⟩:=Z02 h;obtain⟨h3,h⟩:=Z02 h;have hd:d∉refs (ev y):=fun hm=>hr d hm (by simpa using h3)
    split at h
    ·rename_i l hx
     split at h
     ·rename_i s n f hob;obtain⟨h4,k1⟩:=Z02 h;obtain⟨h5,h6,k2⟩:=Z02 k1;have h4:=qg h4;subst h4;have hdl:d≠l:=fun e=>by subst e;rw[hob]at h3;cases h3
      refine⟨_,_,k2,Zus hT ho hx hob hy (by simpa using h5) h1 h2 h6 h3 ⟨hd,hdl⟩,fun k hk=>?_⟩;rw[Z2h,Z04]at hk
      split at hk
      ·rename_i e;subst e;exact .inr (by simpa using h3)
      split at hk
      ·rename_i e;subst e;exact .inl ⟨x,by simp[ho,Op.operands,Call.operands],by simp[hx,refs]⟩
      exact absurd rfl hk
     exact h.elim
    ·rename_i hx;exact⟨_,_,h.2,Zib hT ho (.inl hx) hy h1 h2 h.1 hd,.new h3⟩
    ·rename_i hx;exact⟨_,_,h.2,Zib hT ho (.inr hx) hy h1 h2 h.1 hd,.new h3⟩
    exact h.elim
   ·rename_i x y
    split at h
    ·rename_i k a k' b hx hy;exact⟨_,_,h,Zw7 ho hx hy,.nil⟩
    exact h.elim
   ·rename_i x y
    split at h
    ·rename_i k a k' b hx hy;exact⟨_,_,h,Zw6 ho hx hy,.nil⟩
    exact h.elim
   exact h.elim
  exact h.elim
 exact h.elim
end
end Go.Abs
