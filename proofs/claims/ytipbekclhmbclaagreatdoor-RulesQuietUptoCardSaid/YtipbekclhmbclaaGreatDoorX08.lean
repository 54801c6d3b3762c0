/- YtipbekclhmbclaaGreatDoorX08: walks and contracts. -/
import Derived.Test.YtipbekclhmbclaaGreatDoorX07
import Derived.OrdersIn
import Derived.RangeFuncLeaves
import Derived.RangeFuncRecord
import Derived.TacticsIn

set_option linter.unusedVariables false
set_option linter.unusedSimpArgs false
set_option linter.unusedSectionVars false

namespace Go.Abs
open Go.RowKit
variable [Globals]
def WF (ro:Option Nat):Fence:={ Fence.wide with round:=ro }
theorem callsIn_wf {ro:Option Nat} {n:Nat} {P:Program} {f:FuncId} {args:Array Value} {w:World} {R:Ending→World→Prop}:CallsIn (WF ro) n P f args w R↔Calls P f args w R:=
 (callsIn_wide (n:=n):CallsIn Fence.wide n P f args w R↔_)
theorem Z0qu {ro:Option Nat} {n:Nat} {P:Program} {row:String} {args:Array Value} {w:World} {R:Value→World→Prop} (h:Rows P row args w R):RowsIn (WF ro) n P row args w R:=
 fun c cs _=>let ⟨v,w',r,s⟩:=h c cs;⟨v,w',r,stepsIn_wide.2 s⟩
def notDefer (o:Oper):Bool:=match o.op with | .defer _=>false|_=>true
theorem Z0m8 {o:Oper} (h:notDefer o=true):∀ c,o.op≠.defer c:=fun c e=>by unfold notDefer at h;rw [e] at h;cases h
theorem Z0p1 (a:Act) (d:Option Tmp) (v:Value):(a.put d v).defers=a.defers∧(⟨(a.put d v).tmps,[]⟩:Act)=(⟨a.tmps,[]⟩:Act).put d v:=by
 cases d<;>exact⟨rfl,rfl⟩
section
variable {P:Program} {T:Tab} {E:FEnv} {ro:Option Nat} {n:Nat}
theorem opIn {o:Oper} {a:Act} {w:World} {next:Act→World→Prop} {Q:Exit→Act→World→Prop} (hnd:notDefer o=true) (hn:∀ a w,next a w→a.defers = [])
  (h:o.wp P ⟨a.tmps,[]⟩ w next (fun _ _ _=>False)):o.wpIn (WF ro) n P a w (fun a' w'=>a'.defers=a.defers∧next ⟨a'.tmps,[]⟩ w') Q:=by
 refine⟨fun f _=>trivial,?_⟩
 rw [Oper.semAt_eq _ _ _ (Z0m8 hnd)]
 unfold Oper.wp at h
 have hev:(⟨a.tmps,[]⟩:Act).eval=a.eval:=rfl
 rw [hev] at h
 generalize (execOp a.eval o).run P w=r at *
 cases r with
 |ok nx w'=>
  cases nx with
  |value v=>
   obtain⟨h1,h2⟩:=Z0p1 a o.dst v
   exact⟨h1,by rw [h2];exact h⟩
  |skip=>
   obtain⟨h1,h2⟩:=Z0p1 a o.dst undef
   exact⟨h1,by rw [h2];exact h⟩
  |enter f args=>
   refine⟨fun hd=>(by cases hd),callsIn_wf.2 ?_⟩
   have h:Calls P f args w' _:=h
   refine h.mono fun e w'' he=>?_
   cases e with
   |returned v=>
    obtain⟨h1,h2⟩:=Z0p1 a o.dst v
    exact⟨h1,by rw [h2];exact he⟩
   |panicked c=>exact he.elim
   |outgrown=>obtain⟨_,_,he⟩:=he;exact he.elim
  |row row args=>
   refine⟨fun hd=>(by cases hd),Z0qu ?_⟩
   have h:Rows P row args w' _:=h
   refine h.mono fun v w'' he=>?_
   obtain⟨h1,h2⟩:=Z0p1 a o.dst v
   exact⟨h1,by rw [h2];exact he⟩
  |defer d=>
   have h1:=hn _ _ h
   rw [(Z0p1 _ o.dst undef).1] at h1
   cases h1
  |_=>exact h.elim
 |halt x w'=>cases x<;>exact h.elim
theorem Z092 (hE:E.ok) (hT:T.ok P) {ops:Array Oper} {K:AState→Prop} {d:List Deferred} {tl:List Nat} {Q:Exit→Act→World→Prop}
  (hQ:∀ s σ a w,K s→Rel P E s σ ⟨a.tmps,[]⟩ w→a.defers=d→wpOpsIn (WF ro) n P ops Q tl a w) :
  ∀ (l:List Oper) (i:Nat) (s:AState) (σ:Sig) (a:Act) (w:World),(∀ j,j < l.length→l[j]? = ops[i+j]?)→l.all notDefer=true→a.defers=d→Rel P E s σ ⟨a.tmps,[]⟩ w→arun P T E.nt ops.toList l s K→
   wpOpsIn (WF ro) n P ops Q (List.range' i l.length ++ tl) a w
 | [],i,s,σ,a,w,_,_,hd,hR,h=>by simpa using hQ s σ a w h hR hd
 |o :: l,i,s,σ,a,w,hl,hnd,hd,hR,h=>by
  have ho:ops[i]? = some o:=by simpa using (hl 0 (by simp)).symm
  have hl':∀ j,j < l.length→l[j]? = ops[i+1+j]?:=fun j hj=>by have:=hl (j+1) (by simpa using hj);simpa [Nat.add_assoc,Nat.add_comm 1 j] using this
  rw [List.all_cons,Bool.and_eq_true] at hnd
  simp only [List.length_cons,List.range'_succ,List.cons_append,wpOpsIn,ho]
  unfold arun at h
  obtain⟨s',hK,hR'⟩:=Z0go (ops:=ops) (a:=⟨a.tmps,[]⟩) hR h
  cases hw:Region.wanted o (yielded ops a.tmps) with
  |true=>
   rw [show(⟨a.tmps,[]⟩:Act).tmps=a.tmps from rfl,hw] at hK
   simp only [if_true]
   refine Oper.wpIn_mono ?_ (opIn (n:=n) (ro:=ro) hnd.1 (fun a w ⟨_,_,_,hr⟩=>hr.df) (Z0mp hE hT hR' hK))
   rintro a' w' ⟨hd',s2,σ2,hs2,hR2⟩
   exact Z092 hE hT hQ l (i+1) s2 σ2 a' w' hl' hnd.2 (hd'.trans hd) hR2 hs2
  |false=>
   rw [show(⟨a.tmps,[]⟩:Act).tmps=a.tmps from rfl,hw] at hK
   simp only [Bool.false_eq_true,if_false]
   refine⟨fun f _=>trivial,?_⟩
   obtain⟨tm,ob⟩:=s'
   have hdd:∀ t,o.dst=some t→t < E.nt:=by
    intro t ht
    simp only [ht] at hK
    unfold nextS at hK
    exact Nat.le_of_ble_eq_true (Z0b4 hK).1
   have h2:=hR'.skip o.dst hdd
   obtain⟨h3,h4⟩:=Z0p1 a o.dst undef
   rw [←h4] at h2
   refine Z092 hE hT hQ l (i+1) _ σ _ w hl' hnd.2 (h3.trans hd) h2 ?_
   cases hd':o.dst with
   |none=>rw [hd'] at hK;exact hK
   |some t=>rw [hd'] at hK;exact(Z0b4 hK).2
def okX:Code→Bool
 | .skip=>true
 | .region _ ops dr=>!dr && ops.toList.all notDefer
 | .seq x y=>okX x && okX y
 | .cond _ x y=>okX x && okX y
 | .block _ c=>okX c
 | .exit _=>true
 | .ret=>true
 |_=>false
def exitX (P:Program) (E:FEnv) (d:List Deferred) (Q:AExit→AState→Prop) (e:Exit) (a:Act) (w:World):Prop:=a.defers=d∧exitQ P E Q e ⟨a.tmps,[]⟩ w
theorem Z09p (hE:E.ok) (hT:T.ok P) {d:List Deferred}:∀ (c:Code) (s:AState) (Q:AExit→AState→Prop) (σ:Sig) (a:Act) (w:World),okX c=true→a.defers=d→Rel P E s σ ⟨a.tmps,[]⟩ w→awp P T E.nt c s Q→c.wpIn (WF ro) n P (exitX P E d Q) a w
 | .skip,s,Q,σ,a,w,_,hd,hR,h=>wpIn_skip ⟨hd,s,σ,h,hR⟩
 | .region id ops true,s,Q,σ,a,w,ho,hd,hR,h=>by simp [okX] at ho
 | .region id ops false,s,Q,σ,a,w,ho,hd,hR,h=>by
  refine wpIn_region ?_
  have:=Z092 (ro:=ro) (n:=n) (tl:=[]) (Q:=exitX P E d Q) hE hT (fun s σ a w hs hR hd=>⟨hd,s,σ,hs,hR⟩) ops.toList 0 s σ a w (fun j _=>by simp) (by simpa [okX] using ho) hd hR h
  rw [List.range_eq_range']
  simpa using this
 | .seq x y,s,Q,σ,a,w,ho,hd,hR,h=>by
  simp only [okX,Bool.and_eq_true] at ho
  refine wpIn_seq (wpIn_mono (Z09p hE hT x s _ σ a w ho.1 hd hR h) (fun e a' w' he=>?_))
  obtain⟨hd',he⟩:=he
  cases e with
  |normal=>obtain⟨s',σ',hq,hR'⟩:=he;exact Z09p hE hT y s' Q σ' a' w' ho.2 hd' hR' hq
  |exit i=>exact⟨hd',he⟩
  |ret=>exact⟨hd',he⟩
  |goto l=>exact he.elim
  |panic c=>exact he.elim
  |outgrown=>exact he.elim
 | .cond c x y,s,Q,σ,a,w,ho,hd,hR,h=>by
  simp only [okX,Bool.and_eq_true] at ho
  obtain⟨tm,ob⟩:=s
  have hc:=Z0d7 hE hR c
  unfold awp at h
  simp only at h
  split at h
  ·rename_i b hb
   rw [show evO tm c = .pv (.val (.bool b)) from hb] at hc
   have hv:=pr_val (arg_pv hc)
   refine wpIn_cond hv ?_
   cases b with
   |true=>exact Z09p hE hT x _ Q σ a w ho.1 hd hR h
   |false=>exact Z09p hE hT y _ Q σ a w ho.2 hd hR h
  ·rename_i b hb
   rw [show evO tm c = .pv (.sb b) from hb] at hc
   have hv:=pr_sb (arg_pv hc)
   refine wpIn_cond hv ?_
   cases b with
   |true=>exact Z09p hE hT x _ Q σ a w ho.1 hd hR (h.1 rfl)
   |false=>exact Z09p hE hT y _ Q σ a w ho.2 hd hR (h.2 rfl)
  ·exact h.elim
 | .block id c,s,Q,σ,a,w,ho,hd,hR,h=>by
  refine wpIn_block (wpIn_mono (Z09p hE hT c s _ σ a w (by simpa [okX] using ho) hd hR h) (fun e a' w' he=>?_))
  obtain⟨hd',he⟩:=he
  cases e with
  |normal=>exact⟨hd',he⟩
  |exit i=>
   obtain⟨s',σ',hq,hR'⟩:=he
   have hq:(match Nat.beq i id with|true=>Q .normal s'|false=>Q (.exit i) s'):=hq
   simp only [Exit.inBlock]
   cases hb:Nat.beq i id with
   |true=>
    rw [hb] at hq
    rw [if_pos (Nat.eq_of_beq_eq_true hb)]
    exact⟨hd',s',σ',hq,hR'⟩
   |false=>
    rw [hb] at hq
    rw [if_neg (fun e=>by rw [e] at hb;simp at hb)]
    exact⟨hd',s',σ',hq,hR'⟩
  |ret=>exact⟨hd',he⟩
  |goto l=>exact he.elim
  |panic c=>exact he.elim
  |outgrown=>exact he.elim
 | .exit id,s,Q,σ,a,w,_,hd,hR,h=>wpIn_exit ⟨hd,s,σ,h,hR⟩
 | .ret,s,Q,σ,a,w,_,hd,hR,h=>wpIn_ret ⟨hd,s,σ,h,hR⟩
 | .loop ..,s,Q,σ,a,w,ho,hd,hR,h=>by simp [okX] at ho
 | .rangeFunc ..,s,Q,σ,a,w,ho,hd,hR,h=>h.elim
 | .scope _,s,Q,σ,a,w,ho,hd,hR,h=>h.elim
 | .label _,s,Q,σ,a,w,ho,hd,hR,h=>h.elim
 | .goto _,s,Q,σ,a,w,ho,hd,hR,h=>h.elim
 | .refuse _,s,Q,σ,a,w,ho,hd,hR,h=>h.elim
def pinOf (σ:Sig) (l:Nat):Option Loc:=if 900000≤l then σ l else none
abbrev reE (nt:Nat) (M0:Nat→Prop) (σ:Sig) (w':World):FEnv:=⟨nt,fun _=>False,M0,owned σ,w',pinOf σ⟩
theorem reE_ok {M0:Nat→Prop} {σ:Sig} {w:World} {nt:Nat} (hi:Inv (fun _=>False) M0 σ w):(reE nt M0 σ w).ok:=
 ⟨hi.m0,fun _ h=>h.elim,hi.gl,fun l loc e=>by
  have e:pinOf σ l=some loc:=e
  unfold pinOf at e
  split at e
  ·assumption
  ·cases e⟩
theorem Z0ib {M0:Nat→Prop} {σ:Sig} {w w':World} (hi:Inv (fun _=>False) M0 σ w) (hs:Same (Mof M0 σ) w w'):Inv (fun _=>False) M0 σ w':=
 ⟨hi.sep,fun b hb=>Nat.lt_of_lt_of_le (hi.lt b hb) hs.1,fun b hb=>⟨Nat.lt_of_lt_of_le (hi.m0 b hb).1 hs.1,(hi.m0 b hb).2⟩,fun _ h=>h.elim,hi.gl.mono hs (fun _ _ h=>h)⟩
theorem Rel.to {s:AState} {σ:Sig} {a:Act} {w w':World} {nt:Nat} {M0 F0:Nat→Prop} {w1:World} {pin:Nat→Option Loc} {ob2:List (Nat × AObj)} (hR:Rel P ⟨nt,fun _=>False,M0,F0,w1,pin⟩ s σ a w) (hi:Inv (fun _=>False) M0 σ w) (hs:Same (Mof M0 σ) w w')
  (hk:∀ i,(getO ob2 i=none↔getO s.ob i=none)) (hob:∀ i o,getO ob2 i=some o→refsO o = []∧At P w' (fun _=>False) M0 σ i o):Rel P (reE nt M0 σ w') ⟨s.tm,ob2⟩ σ a w':=by
 refine⟨hR.sz,hR.df,fun t=>(hR.tm t).mono hs (fun _ _ h=>h) (fun _ h=>h.elim) (fun _ _ _ e=>e),fun l o e=>(hob l o e).2,fun l e=>hR.nob l ((hk l).1 e),fun t l hl e=>hR.wt t l hl ((hk l).1 e),fun i o e l hl=>?_,hR.sep,fun b hb=>.inl hb,FExt.refl _ _,fun l loc e=>?_⟩
 ·rw [(hob i o e).1] at hl;cases hl
 ·have e:pinOf σ l=some loc:=e
  unfold pinOf at e
  split at e
  ·refine⟨fun h=>?_,fun loc' e'=>Option.some.inj (e'.symm.trans e)⟩
   have:=hR.nob l ((hk l).1 h)
   rw [this] at e;cases e
  ·cases e
theorem getO_none:∀ {l:List (Nat × AObj)} {i:Nat},getO l i=none↔i ∉ l.map (·.1)
 | [],i=>by simp [getO]
 |(j,o) :: l,i=>by
  rw [Z0g8]
  by_cases e:j=i
  ·subst e;simp
  ·rw [if_neg e,getO_none (l:=l)]
   simp [Ne.symm e]
theorem Z0gb {l l':List (Nat × AObj)} (h:l.map (·.1)=l'.map (·.1)) (i:Nat):getO l i=none↔getO l' i=none:=by rw [getO_none,getO_none,h]
theorem Z0ge {l:List (Nat × AObj)} {i:Nat} (h:getO l i≠none):i ∈ l.map (·.1):=Classical.byContradiction fun h2=>h (getO_none.2 h2)
def boxF:List (Nat × AObj)→Bool
 | []=>true
 |(_,.pbox cs) :: r=>flatP.flatL cs && boxF r
 |_=>false
theorem Z0ac:∀ {ob:List (Nat × AObj)} {i:Nat} {o:AObj},boxF ob=true→getO ob i=some o→∃ cs,o = .pbox cs∧flatP.flatL cs=true
 |(j,.pbox cs) :: r,i,o,h,e=>by
  simp only [boxF,Bool.and_eq_true] at h
  rw [Z0g8] at e
  split at e
  ·cases e;exact⟨cs,rfl,h.1⟩
  ·exact Z0ac h.2 e
theorem obj_at {w w':World} {St M0 M0':Nat→Prop} {σ σ':Sig} {i:Nat} {cs:List PV} (h:At P w St M0 σ i (.pbox cs)) (hf:flatP.flatL cs=true) (hσ:∀ loc,σ i=some loc→σ' i=some loc)
  (hb:∀ b,owned σ' b→w'.heap[b]? = w.heap[b]?):At P w' (fun _=>False) M0' σ' i (.pbox cs):=by
 obtain⟨b,vs,t,hl,hb',hsz,hp,hone⟩:=Z09i h
 have hl':=hσ _ hl
 exact⟨_,hl',.pbox cs b vs t ((hb b ⟨i,_,hl',rfl⟩).trans hb') hsz (fun j p e=>(hp j p e).flat (Z0ep hf j p e)) hone⟩
structure RS (P:Program) (nt:Nat) (M0:Nat→Prop) (σ:Sig) (a0:Act) (w0:World) (l D:Nat) (rec:Loop) (S:AState) (W:World):Prop where
 rel:Rel P (reE nt M0 σ W) S σ a0 W
 inv:Inv (fun _=>False) M0 σ W
 lrec:W.heap[l]? = some (.loop rec)
 dfr:W.heap[D]? = some (.deferred (some []))
 ext:FExt (owned σ) w0 W
theorem RS.goes {nt:Nat} {M0:Nat→Prop} {σ:Sig} {a0:Act} {w0 W W':World} {l D:Nat} {rec rec':Loop} {S S':AState} (h:RS P nt M0 σ a0 w0 l D rec S W) (hl:M0 l) (hD:M0 D) (hlD:D≠l) (hw0:w0.heap.size≤l)
  (hx:FExt (fun b=>owned σ b∨b=l) W W') (hrec:W'.heap[l]? = some (.loop rec')) (htm:S'.tm=S.tm) (hk:∀ i,(getO S'.ob i=none↔getO S.ob i=none)) (hf:boxF S'.ob=true)
  (hob:∀ i o,getO S'.ob i=some o→At P W' (fun _=>False) M0 σ i o):RS P nt M0 σ a0 w0 l D rec' S' W'∧Same (Mof M0 σ) W W':=by
 have hs:Same (Mof M0 σ) W W':=hx.same.mono fun b _ hb=>hb.elim .inr (fun e=>.inl (e ▸ hl))
 have hrel:Rel P (reE nt M0 σ W') ⟨S.tm,S'.ob⟩ σ a0 W':=Rel.to h.rel h.inv hs hk (fun i o e=>⟨by obtain⟨cs,rfl,_⟩:=Z0ac hf e;rfl,hob i o e⟩)
 refine⟨⟨?_,Z0ib h.inv hs,hrec,?_,?_⟩,hs⟩
 ·rw [←htm] at hrel;exact hrel
 ·exact(hx.block D (h.inv.m0 D hD).1 (fun hb=>hb.elim (h.inv.m0 D hD).2 hlD)).trans h.dfr
 ·exact⟨hx.os.trans h.ext.os,hx.tape.trans h.ext.tape,hx.output.trans h.ext.output,Nat.le_trans h.ext.size hx.size,fun b hb hn=>(hx.block b (Nat.lt_of_lt_of_le hb h.ext.size) (fun hh=>hh.elim hn (fun e=>by omega))).trans (h.ext.block b hb hn),Nat.le_trans h.ext.drawn hx.drawn⟩
theorem RS.step {nt:Nat} {M0:Nat→Prop} {σ:Sig} {a0:Act} {w0 W W':World} {l D:Nat} {rec:Loop} {S:AState} (h:RS P nt M0 σ a0 w0 l D rec S W) (hl:M0 l) (hD:M0 D) (hlD:D≠l) (hw0:w0.heap.size≤l)
  (hf:boxF S.ob=true) (hx:FExt (fun _=>False) W W'):RS P nt M0 σ a0 w0 l D rec S W':=
 (h.goes hl hD hlD hw0 (hx.mono fun _ _ h=>h.elim) ((hx.block l (h.inv.m0 l hl).1 id).trans h.lrec) rfl (fun _=>Iff.rfl) hf (fun i o e=>by
  obtain⟨cs,rfl,hc⟩:=Z0ac hf e
  exact obj_at (h.rel.ob i _ e) hc (fun _ h=>h) (fun b hb=>hx.block b (h.inv.lt b hb) id))).1
theorem Rel.putA {s:AState} {σ:Sig} {a:Act} {w:World} (hR:Rel P E s σ a w) {d:Nat} (hd:d < E.nt) {p:PV} {v:Value} (h:PR w (Mof E.M0 σ) p v):Rel P E ⟨(d,.pv p) :: s.tm,s.ob⟩ σ ⟨a.tmps.setIfInBounds d v,[]⟩ w:=by
 have hlt:d < a.tmps.size:=by rw [hR.sz];exact hd
 refine⟨by simp [hR.sz],rfl,fun t=>?_,hR.ob,hR.nob,fun t l hl=>?_,hR.wo,hR.sep,hR.own,hR.ext,hR.pn⟩
 ·simp only [Z0gf]
  by_cases e:d=t
  ·rw [if_pos e]
   subst e
   simp [Array.getD_eq_getD_getElem?,hlt]
   exact .pv _ _ h
  ·rw [if_neg e]
   have:=hR.tm t
   simpa [Array.getD_eq_getD_getElem?,Array.getElem?_setIfInBounds_ne e] using this
 ·simp only [Z0gf] at hl
  split at hl
  ·simp [refs] at hl
  ·exact hR.wt t l hl
theorem Z0dh {w:World} {l:Nat} (o:Obj):FExt (fun b=>b=l) w (w.putObj l o):=
 ⟨rfl,rfl,rfl,by simp [World.putObj],fun b _ hb=>World.putObj_heap_other hb,Nat.le_refl _⟩
def normQ (Sa:AState):AExit→AState→Prop
 | .normal,s=>∃ r,entS r s Sa
 |_,_=>False
def roundQ (G C:Prop) (o1 ox:List (Nat × AObj)):AExit→AState→Prop
 | .normal,s=>G∧∃ r,entS r s ⟨[],o1⟩
 | .ret,s=>C∧∃ r,entS r s ⟨[],ox⟩
 |_,_=>False
theorem Z0qp (hT:T.ok P) {nt m:Nat} {M0:Nat→Prop} {σ:Sig} {a0:Act} {w0 W:World} {l D:Nat} {fn:FuncId} {p q:Tmp} {assign body:Code} {S Sa:AState} {o1 ox:List (Nat × AObj)} {G C:Prop} {x y:PV} {vals:Array Value}
  (h:RS P nt M0 σ a0 w0 l D { state:=.ready,pending:=none,fn,tmps:=a0.tmps,params:=#[p,q],assign,body,defers:=D } S W) (hl:M0 l) (hD:M0 D) (hlD:D≠l) (hw0:w0.heap.size≤l)
  (hf:boxF S.ob=true) (hfa:boxF Sa.ob=true) (hf1:boxF o1=true) (hfx:boxF ox=true) (hhi:∀ i,getO S.ob i≠none→900000≤i)
  (hka:∀ i,getO S.ob i≠none→getO Sa.ob i≠none) (hk1:∀ i,(getO o1 i=none↔getO S.ob i=none)) (hkx:∀ i,(getO ox i=none↔getO S.ob i=none))
  (hv:vals.size=2) (hx:PR W (Mof M0 σ) x (vals.getD 0 undef)) (hy:PR W (Mof M0 σ) y (vals.getD 1 undef)) (hp:p < nt) (hq:q < nt) (hoka:okX assign=true) (hokb:okX body=true)
  (ha:awp P T nt assign ⟨(q,.pv y) ::(p,.pv x) :: S.tm,S.ob⟩ (normQ Sa)) (hb:awp P T nt body Sa (roundQ G C o1 ox)) :
  ∃ fn' tmps assign' body',(Instr.yield l vals).run P W = .ok (.round l fn' tmps assign' body') W∧RoundIn (WF none) m P l fn' tmps assign' body' W (fun e W'=>Same (Mof M0 σ) W W'∧
   ((e = .returned (.bool true)∧G∧RS P nt M0 σ a0 w0 l D { state:=.ready,pending:=none,fn,tmps:=a0.tmps,params:=#[p,q],assign,body,defers:=D } ⟨S.tm,o1⟩ W')∨
    (e = .returned (.bool false)∧C∧RS P nt M0 σ a0 w0 l D { state:=.done,pending:=some .ret,fn,tmps:=a0.tmps,params:=#[p,q],assign,body,defers:=D } ⟨S.tm,ox⟩ W'))):=by
 have hyl:=run_yield (P:=P) (args:=vals) h.lrec hv
 refine⟨_,_,_,_,hyl,roundIn_of_wpIn trivial ?_⟩
 obtain⟨v0,v1,rfl⟩:∃ v0 v1,vals=#[v0,v1]:=by
  refine⟨vals[0]'(by omega),vals[1]'(by omega),?_⟩
  apply Array.ext
  ·simpa using hv
  ·intro i h1 h2
   have:i=0∨i=1:=by simp at h2;omega
   rcases this with rfl|rfl<;>rfl
 have hE:=reE_ok (nt:=nt) h.inv
 have hRin:Rel P (reE nt M0 σ W) ⟨(q,.pv y) ::(p,.pv x) :: S.tm,S.ob⟩ σ ⟨(a0.tmps.setIfInBounds p v0).setIfInBounds q v1,[]⟩ W:=
  (h.rel.putA (E:=reE nt M0 σ W) hp hx).putA (E:=reE nt M0 σ W) hq hy
 have hz:((#[p,q].zip #[v0,v1]).foldl (fun tmps (t,a)=>tmps.setIfInBounds t a) a0.tmps)=(a0.tmps.setIfInBounds p v0).setIfInBounds q v1:=by simp
 dsimp only
 rw [hz]
 refine wpIn_mono (Z09p (ro:=some l) (n:=m) (d:=[]) hE hT assign _ _ σ ⟨(a0.tmps.setIfInBounds p v0).setIfInBounds q v1,[]⟩ W hoka rfl hRin ha) ?_
 rintro e a1 Wa ⟨hd1,he⟩
 cases e with
 |normal=>
  obtain⟨s1,σs,⟨r,hent⟩,hR1⟩:=he
  obtain⟨σ1,hRa⟩:=Z0cn hent _ σs _ Wa hE hR1
  have hia:=hRa.inv hE
  have hla:Wa.heap[l]? = some (.loop { state:=.ready,pending:=none,fn,tmps:=a0.tmps,params:=#[p,q],assign,body,defers:=D }):=(hRa.ext.block l (h.inv.m0 l hl).1 (h.inv.m0 l hl).2).trans h.lrec
  refine⟨_,run_beginRound hla rfl,?_⟩
  obtain⟨Wb,hWb⟩:∃ Wb,Wb=Wa.putObj l (.loop { state:=.busy,pending:=none,fn,tmps:=a0.tmps,params:=#[p,q],assign,body,defers:=D }):=⟨_,rfl⟩
  rw [←hWb]
  have hab:FExt (fun b=>b=l) Wa Wb:=by rw [hWb];exact Z0dh _
  have hsab:Same (Mof M0 σ1) Wa Wb:=hab.same.mono fun b _ e=>.inl (e ▸ hl)
  have hib:=Z0ib hia hsab
  have hlb:Wb.heap[l]? = some (.loop { state:=.busy,pending:=none,fn,tmps:=a0.tmps,params:=#[p,q],assign,body,defers:=D }):=by rw [hWb];exact World.putObj_heap_same (Z0kt hla)
  have hRb:Rel P (reE nt M0 σ1 Wb) Sa σ1 ⟨a1.tmps,[]⟩ Wb:=Rel.to (ob2:=Sa.ob) hRa hia hsab (fun _=>Iff.rfl) (fun i o e=>by
   obtain⟨cs,rfl,hc⟩:=Z0ac hfa e
   refine⟨rfl,obj_at (hRa.ob i _ e) hc (fun _ h=>h) (fun b hb=>?_)⟩
   rw [hWb]
   exact World.putObj_heap_other (fun e=>(hia.m0 l hl).2 (e ▸ hb)))
  have hEb:=reE_ok (nt:=nt) hib
  refine wpIn_mono (Z09p (ro:=some l) (n:=m) (d:=[]) hEb hT body _ _ σ1 _ Wb hokb hd1 hRb hb) ?_
  have fin:∀ (ob2:List (Nat × AObj)) (σ2:Sig) (a2:Act) (W3:World) (rec':Loop),boxF ob2=true→(∀ i,(getO ob2 i=none↔getO S.ob i=none))→Rel P (reE nt M0 σ1 Wb) ⟨[],ob2⟩ σ2 ⟨a2.tmps,[]⟩ W3→
    W3.heap[l]? = some (.loop { state:=.busy,pending:=none,fn,tmps:=a0.tmps,params:=#[p,q],assign,body,defers:=D })∧
    (RS P nt M0 σ a0 w0 l D rec' ⟨S.tm,ob2⟩ (W3.putObj l (.loop rec'))∧Same (Mof M0 σ) W (W3.putObj l (.loop rec'))):=by
   intro ob2 σ2 a2 W3 rec' hf2 hk2 hR2
   have hl3:=(hR2.ext.block l (hib.m0 l hl).1 (hib.m0 l hl).2).trans hlb
   have h34:FExt (fun b=>b=l) W3 (W3.putObj l (.loop rec')):=Z0dh _
   refine⟨hl3,h.goes hl hD hlD hw0 (FExt.mono (F:=fun b=>owned σ b∨b=l∨W.heap.size≤b) (FExt.trans (b:=Wa) (hRa.ext.mono fun b _ hb=>.inl hb) (FExt.trans (b:=Wb) (hab.mono fun b _ hb=>.inr (.inl hb)) (FExt.trans (b:=W3) (hR2.ext.mono fun b _ hb=>(hRa.own b hb).imp id .inr) (h34.mono fun b _ hb=>.inr (.inl hb))))) fun b hb hh=>hh.imp id fun h=>h.elim id fun h=>absurd h (by omega)) (World.putObj_heap_same (Z0kt hl3)) rfl hk2 hf2 (fun i o e=>?_)⟩
   ·have e:getO ob2 i=some o:=e
    obtain⟨cs,rfl,hc⟩:=Z0ac hf2 e
    refine obj_at (hR2.ob i _ e) hc (fun loc hloc=>?_) (fun b hb=>World.putObj_heap_other (fun e=>(h.inv.m0 l hl).2 (e ▸ hb)))
    have hSi:getO S.ob i≠none:=fun h0=>by rw [(hk2 i).2 h0] at e;cases e
    have hhi':=hhi i hSi
    obtain⟨o0,ho0⟩:=Option.ne_none_iff_exists'.1 hSi
    obtain⟨cs0,rfl,_⟩:=Z0ac hf ho0
    obtain⟨loc0,hl0,_⟩:=h.rel.ob i _ ho0
    obtain⟨oa,hoa⟩:=Option.ne_none_iff_exists'.1 (hka i hSi)
    obtain⟨csa,rfl,_⟩:=Z0ac hfa hoa
    obtain⟨loc1,hl1,_⟩:=hRa.ob i _ hoa
    have e1:loc1=loc0:=(hRa.pn i loc0 (by show pinOf σ i=_;unfold pinOf;rw [if_pos hhi'];exact hl0)).2 loc1 hl1
    have e2:loc=loc1:=(hR2.pn i loc1 (by show pinOf σ1 i=_;unfold pinOf;rw [if_pos hhi'];exact hl1)).2 loc hloc
    rw [e2,e1];exact hl0
  rintro e a2 W3 ⟨_,he⟩
  cases e with
  |normal=>
   obtain⟨s2,σt,⟨hG,r2,hent2⟩,hR2⟩:=he
   obtain⟨σ2,hR2⟩:=Z0cn hent2 _ σt _ W3 hEb hR2
   obtain⟨hl3,hrs,hsm⟩:=fin o1 σ2 a2 W3 _ hf1 hk1 hR2
   exact⟨_,_,run_endRound none hl3,hsm,.inl ⟨rfl,hG,hrs⟩⟩
  |ret=>
   obtain⟨s2,σt,⟨hC,r2,hent2⟩,hR2⟩:=he
   obtain⟨σ2,hR2⟩:=Z0cn hent2 _ σt _ W3 hEb hR2
   obtain⟨hl3,hrs,hsm⟩:=fin ox σ2 a2 W3 _ hfx hkx hR2
   exact⟨_,_,run_endRound (some .ret) hl3,hsm,.inr ⟨rfl,hC,hrs⟩⟩
  |exit i=>obtain⟨_,_,h,_⟩:=he;exact h.elim
  |goto t=>exact he.elim
  |panic c=>exact he.elim
  |outgrown=>exact he.elim
 |exit i=>obtain⟨_,_,h,_⟩:=he;exact h.elim
 |ret=>obtain⟨_,_,h,_⟩:=he;exact h.elim
 |goto t=>exact he.elim
 |panic c=>exact he.elim
 |outgrown=>exact he.elim
def Yields (P:Program) (g:FuncId) (caps:Array Value) (M:Nat→Prop) (N:Nat) (xs:Nat→PV × PV) (W:World):Prop:=
 ∀ (l:Nat) (J:Nat→World→Prop) (Jx:World→Prop),J 0 W→(∀ k A B,J k A→FExt (fun _=>False) A B→J k B)→(∀ A B,Jx A→FExt (fun _=>False) A B→Jx B)→
  (∀ k A vals,k < N→J k A→vals.size=2→PR A M (xs k).1 (vals.getD 0 undef)→PR A M (xs k).2 (vals.getD 1 undef)→
   ∃ fn' tmps assign' body',(Instr.yield l vals).run P A = .ok (.round l fn' tmps assign' body') A∧RoundIn (WF none) 0 P l fn' tmps assign' body' A (fun e B=>Same M A B∧((e = .returned (.bool true)∧J (k+1) B)∨(e = .returned (.bool false)∧Jx B))))→
  Calls P g (#[.func (.yield l) #[] #[]] ++ caps) W (fun e B=>∃ v,e = .returned v∧(J N B∨Jx B))
theorem Z0pc (hT:T.ok P) {nt:Nat} {M0 F0:Nat→Prop} {w0:World} {pin:Nat→Option Loc} {σ:Sig} {a:Act} {w:World} {d:List Deferred} {Q:Exit→Act→World→Prop} {g:Operand} {gf:FuncId} {caps:Array Value} {p q:Tmp} {assign body:Code} {tm:List (Nat × AV)} {N:Nat} {xs:Nat→PV × PV} {ob:Nat→List (Nat × AObj)} {Sa:Nat→AState} {ox:Nat→List (Nat × AObj)} {G C:Nat→Prop}
  (hE:FEnv.ok ⟨nt,fun _=>False,M0,F0,w0,pin⟩) (hd:a.defers=d) (hR:Rel P ⟨nt,fun _=>False,M0,F0,w0,pin⟩ ⟨tm,ob 0⟩ σ ⟨a.tmps,[]⟩ w) (hg:a.eval g = .func (.func gf) #[] caps) (hc:∀ (vals:Array Value) (w:World),(callFunc gf vals).run P w = .ok (.enter gf vals) w)
  (hY:∀ M W,(∀ b,b < w.heap.size→M b→Mof M0 σ b)→(∀ b,M b→b < W.heap.size)→Glob W M→FExt (fun _=>False) w W→Yields P gf caps M N xs W)
  (hf:∀ k,k≤N→boxF (ob k)=true) (hfa:∀ k,k < N→boxF (Sa k).ob=true) (hfx:∀ k,k < N→boxF (ox k)=true) (hG0:G 0) (hhi:∀ i,getO (ob 0) i≠none→900000≤i)
  (hk:∀ k,k≤N→∀ i,(getO (ob k) i=none↔getO (ob 0) i=none)) (hka:∀ k,k < N→∀ i,getO (ob 0) i≠none→getO (Sa k).ob i≠none) (hkx:∀ k,k < N→∀ i,(getO (ox k) i=none↔getO (ob 0) i=none))
  (hp:p < nt) (hq:q < nt) (hoka:okX assign=true) (hokb:okX body=true)
  (ha:∀ k,k < N→awp P T nt assign ⟨(q,.pv (xs k).2) ::(p,.pv (xs k).1) :: tm,ob k⟩ (normQ (Sa k))) (hb:∀ k,k < N→G k→awp P T nt body (Sa k) (roundQ (G (k+1)) (C k) (ob (k+1)) (ox k)))
  (hdone:∀ (M1:Nat→Prop) (D:Nat) (W:World),G N→(∀ b,M0 b→M1 b)→M1 D→w.heap.size≤D→W.heap[D]? = some (.deferred (some []))→Inv (fun _=>False) M1 σ W→Rel P (reE nt M1 σ W) ⟨tm,ob N⟩ σ ⟨a.tmps,[]⟩ W→FExt (owned σ) w W→Q .normal ⟨a.tmps,{ target:=.collected D,args:=#[] } :: d⟩ W)
  (hstop:∀ (M1:Nat→Prop) (D:Nat) (W:World) (k:Nat),k < N→C k→(∀ b,M0 b→M1 b)→M1 D→w.heap.size≤D→W.heap[D]? = some (.deferred (some []))→Inv (fun _=>False) M1 σ W→Rel P (reE nt M1 σ W) ⟨tm,ox k⟩ σ ⟨a.tmps,[]⟩ W→FExt (owned σ) w W→Q .ret ⟨a.tmps,{ target:=.collected D,args:=#[] } :: d⟩ W) :
  (Code.rangeFunc g #[p,q] assign body).wpIn (WF none) n P Q a w:=by
 refine wpIn_rangeFunc ?_
 intro fn _
 obtain⟨rec,hrec⟩:∃ rec:LoopState→Option Code→Loop,rec=fun st pe=>{ state:=st,pending:=pe,fn,tmps:=a.tmps,params:=#[p,q],assign,body,defers:=w.heap.size }:=⟨_,rfl⟩
 obtain⟨W1,hW1⟩:∃ W1,W1=(w.alloc (.deferred (some []))).alloc (.loop (rec .ready none)):=⟨_,rfl⟩
 have hx1:FExt (fun _=>False) w W1:=by
  rw [hW1]
  refine FExt.trans (b:=w.alloc (.deferred (some []))) ?_ ?_
  ·exact⟨rfl,rfl,rfl,(Z0sc (fun _=>False) _ _).1,fun b hb _=>Z087 _ _ b hb,Nat.le_refl _⟩
  ·exact⟨rfl,rfl,rfl,(Z0sc (fun _=>False) _ _).1,fun b hb _=>Z087 _ _ b hb,Nat.le_refl _⟩
 have hsz1:W1.heap.size=w.heap.size+2:=by rw [hW1];simp
 have hl1:W1.heap[w.heap.size+1]? = some (.loop (rec .ready none)):=by
  rw [hW1];have:=Z086 (w.alloc (.deferred (some []))) (.loop (rec .ready none));rwa [World.size_alloc] at this
 have hD1:W1.heap[w.heap.size]? = some (.deferred (some [])):=by
  rw [hW1,Z087 _ _ _ (by simp)];exact Z086 w _
 have hi:=hR.inv hE
 obtain⟨M1,hM1⟩:∃ M1:Nat→Prop,M1=fun b=>M0 b∨b=w.heap.size∨b=w.heap.size+1:=⟨_,rfl⟩
 have hMl:M1 (w.heap.size+1):=by rw [hM1];exact .inr (.inr rfl)
 have hMD:M1 w.heap.size:=by rw [hM1];exact .inr (.inl rfl)
 have hMM:∀ b,M0 b→M1 b:=fun b hb=>by rw [hM1];exact .inl hb
 have hback:∀ b,b < w.heap.size→Mof M1 σ b→Mof M0 σ b:=fun b hb hm=>by
  rw [hM1] at hm
  rcases hm with (hm|hm|hm)|hm
  ·exact .inl hm
  ·omega
  ·omega
  ·exact .inr hm
 have hi1:Inv (fun _=>False) M1 σ W1:=by
  refine⟨hi.sep,fun b hb=>Nat.lt_of_lt_of_le (hi.lt b hb) hx1.size,fun b hb=>?_,fun _ h=>h.elim,hi.gl.mono (hx1.same.mono fun _ _ h=>h.elim) hback⟩
  rw [hM1] at hb
  rcases hb with hb|hb|hb
  ·exact⟨Nat.lt_of_lt_of_le (hi.m0 b hb).1 hx1.size,(hi.m0 b hb).2⟩
  ·exact⟨by omega,fun ho=>by have:=hi.lt b ho;omega⟩
  ·exact⟨by omega,fun ho=>by have:=hi.lt b ho;omega⟩
 have hR1:Rel P (reE nt M1 σ W1) ⟨tm,ob 0⟩ σ ⟨a.tmps,[]⟩ W1:=by
  refine⟨hR.sz,rfl,fun t=>(hR.tm t).mono (hx1.same.mono fun _ _ h=>h.elim) hback (fun _ h=>h.elim) (fun _ _ _ e=>e),fun i o e=>?_,hR.nob,hR.wt,hR.wo,hR.sep,fun b hb=>.inl hb,FExt.refl _ _,fun l loc e=>?_⟩
  ·have e:getO (ob 0) i=some o:=e
   obtain⟨cs,rfl,hcs⟩:=Z0ac (hf 0 (Nat.zero_le _)) e
   exact obj_at (hR.ob i _ e) hcs (fun _ h=>h) (fun b hb=>hx1.block b (hi.lt b hb) id)
  ·have e:pinOf σ l=some loc:=e
   unfold pinOf at e
   split at e
   ·exact⟨fun h=>(by rw [hR.nob l h] at e;cases e),fun loc' e'=>Option.some.inj (e'.symm.trans e)⟩
   ·cases e
 have h0:RS P nt M1 σ ⟨a.tmps,[]⟩ w (w.heap.size+1) w.heap.size (rec .ready none) ⟨tm,ob 0⟩ W1:=⟨hR1,hi1,hl1,hD1,hx1.mono fun _ _ h=>h.elim⟩
 refine⟨w.heap.size+1,[{ target:=.collected w.heap.size,args:=#[] }],W1,{ target:=.fn (.func gf) caps,args:=#[.func (.yield (w.heap.size+1)) #[] #[]] },W1,gf,
  #[.func (.yield (w.heap.size+1)) #[] #[]] ++ caps,W1,?_,?_,fun _ _=>trivial,?_,fun h=>(by cases h),?_⟩
 ·rw [hW1,hrec];exact run_enterLoop_outer _ _ _ _ _
 ·simp only [resolve,hg]
  simp [go_sem]
 ·simp [invoke,go_sem,hc]
 ·refine callsIn_wf.2 ((hY (Mof M1 σ) W1 hback (fun b hb=>hb.elim (fun h=>(hi1.m0 b h).1) (hi1.lt b)) hi1.gl hx1 (w.heap.size+1)
   (fun k W=>RS P nt M1 σ ⟨a.tmps,[]⟩ w (w.heap.size+1) w.heap.size (rec .ready none) ⟨tm,ob k⟩ W∧k≤N∧G k)
   (fun W=>∃ k,k < N∧C k∧RS P nt M1 σ ⟨a.tmps,[]⟩ w (w.heap.size+1) w.heap.size (rec .done (some .ret)) ⟨tm,ox k⟩ W)
   ⟨h0,Nat.zero_le _,hG0⟩ (fun k A B h hx=>⟨h.1.step hMl hMD (by omega) (by omega) (hf k h.2.1) hx,h.2⟩) (fun A B h hx=>by
    obtain⟨k,h1,h2,h3⟩:=h
    exact⟨k,h1,h2,h3.step hMl hMD (by omega) (by omega) (hfx k h1) hx⟩) (fun k A vals hkN h hv hx hy=>?_)).mono ?_)
  ·obtain⟨h,-,hGk⟩:=h
   rw [hrec] at h
   obtain⟨fn',tmps,as',bd',hyl,hr⟩:=Z0qp (m:=0) hT h hMl hMD (by omega) (by omega) (hf k (by omega)) (hfa k hkN) (hf (k+1) (by omega)) (hfx k hkN) (fun i hi'=>hhi i fun h=>hi' ((hk k (by omega) i).2 h)) (fun i hi'=>hka k hkN i fun h=>hi' ((hk k (by omega) i).2 h))
    (fun i=>(hk (k+1) (by omega) i).trans (hk k (by omega) i).symm) (fun i=>(hkx k hkN i).trans (hk k (by omega) i).symm) hv hx hy hp hq hoka hokb (ha k hkN) (hb k hkN hGk)
   refine⟨fn',tmps,as',bd',hyl,hr.mono fun e B hB=>?_⟩
   rw [hrec]
   exact⟨hB.1,hB.2.imp (fun h=>⟨h.1,h.2.2,by omega,h.2.1⟩) (fun h=>⟨h.1,k,hkN,h.2⟩)⟩
  ·rintro e B ⟨v,rfl,hB⟩
   have last:∀ (st:LoopState) (pe:Option Code) (ob2:List (Nat × AObj)),boxF ob2=true→RS P nt M1 σ ⟨a.tmps,[]⟩ w (w.heap.size+1) w.heap.size (rec st pe) ⟨tm,ob2⟩ B→
     RS P nt M1 σ ⟨a.tmps,[]⟩ w (w.heap.size+1) w.heap.size { rec st pe with state:=.exhausted } ⟨tm,ob2⟩ (B.putObj (w.heap.size+1) (.loop { rec st pe with state:=.exhausted })):=fun st pe ob2 hf2 h=>
    (h.goes hMl hMD (by omega) (by omega) ((Z0dh _).mono fun _ _ h=>.inr h) (World.putObj_heap_same (Z0kt h.lrec)) rfl (fun _=>Iff.rfl) hf2 (fun i o e=>by
     have e:getO ob2 i=some o:=e
     obtain⟨cs,rfl,hc⟩:=Z0ac hf2 e
     exact obj_at (h.rel.ob i _ e) hc (fun _ h=>h) (fun b hb=>World.putObj_heap_other (fun e=>(h.inv.m0 _ hMl).2 (e ▸ hb))))).1
   rw [←hd] at hdone hstop
   rcases hB with ⟨hB,_,hGN⟩|⟨k,hkN,hCk,hB⟩
   ·have h2:=last _ _ _ (hf N (Nat.le_refl _)) hB
    have he:=run_endLoop (P:=P) hB.lrec (by rw [hrec];simp)
    generalize hW2:B.putObj (w.heap.size+1) (.loop { rec .ready none with state:=.exhausted })=W2 at he h2
    refine⟨_,W2,he,?_⟩
    rw [show(rec .ready none).pending=none from by rw [hrec]]
    exact hdone M1 w.heap.size _ hGN hMM hMD (Nat.le_refl _) h2.dfr h2.inv h2.rel h2.ext
   ·have h2:=last _ _ _ (hfx k hkN) hB
    have he:=run_endLoop (P:=P) hB.lrec (by rw [hrec];simp)
    generalize hW2:B.putObj (w.heap.size+1) (.loop { rec .done (some .ret) with state:=.exhausted })=W2 at he h2
    refine⟨_,W2,he,?_⟩
    rw [show(rec .done (some .ret)).pending=some .ret from by rw [hrec]]
    exact wpIn_ret (hstop M1 w.heap.size _ k hkN hCk hMM hMD (Nat.le_refl _) h2.dfr h2.inv h2.rel h2.ext)
def contQ (K:AState→Prop):AExit→AState→Prop
 | .normal,s=>K s
 |_,_=>False
theorem pre3 (hE:E.ok) (hT:T.ok P) {d:List Deferred} {K:AState→Prop} {x y z u t:Code} {s:AState} {σ:Sig} {a:Act} {w:World} {Q:Exit→Act→World→Prop} (ho:okX (.seq x (.seq y z))=true) (hd:a.defers=d) (hR:Rel P E s σ ⟨a.tmps,[]⟩ w)
  (h:awp P T E.nt (.seq x (.seq y z)) s (contQ K)) (hK:∀ s σ a w,K s→a.defers=d→Rel P E s σ ⟨a.tmps,[]⟩ w→u.wpIn (WF ro) n P (Exit.then (t.wpIn (WF ro) n P Q) Q) a w) :
  (Code.seq x (.seq y (.seq (.seq z u) t))).wpIn (WF ro) n P Q a w:=by
 simp only [okX,Bool.and_eq_true] at ho
 obtain⟨hx,hy,hz⟩:=ho
 refine wpIn_seq (wpIn_mono (Z09p hE hT x s _ σ a w hx hd hR h) ?_)
 rintro e a1 w1 ⟨hd1,he⟩
 cases e with
 |normal=>
  obtain⟨s1,σ1,h1,hR1⟩:=he
  refine wpIn_seq (wpIn_mono (Z09p hE hT y s1 _ σ1 a1 w1 hy hd1 hR1 h1) ?_)
  rintro e a2 w2 ⟨hd2,he⟩
  cases e with
  |normal=>
   obtain⟨s2,σ2,h2,hR2⟩:=he
   refine wpIn_seq (wpIn_seq (wpIn_mono (Z09p hE hT z s2 (contQ K) σ2 a2 w2 hz hd2 hR2 h2) ?_))
   rintro e a3 w3 ⟨hd3,he⟩
   cases e with
   |normal=>
    obtain⟨s3,σ3,h3,hR3⟩:=he
    refine wpIn_mono (hK s3 σ3 a3 w3 h3 hd3 hR3) fun e a w he=>?_
    cases e<;>exact he
   |exit i=>obtain⟨_,_,h,_⟩:=he;exact h.elim
   |ret=>obtain⟨_,_,h,_⟩:=he;exact h.elim
   |goto t=>exact he.elim
   |panic c=>exact he.elim
   |outgrown=>exact he.elim
  |exit i=>obtain⟨_,_,h,_⟩:=he;exact h.elim
  |ret=>obtain⟨_,_,h,_⟩:=he;exact h.elim
  |goto t=>exact he.elim
  |panic c=>exact he.elim
  |outgrown=>exact he.elim
 |exit i=>obtain⟨_,_,h,_⟩:=he;exact h.elim
 |ret=>obtain⟨_,_,h,_⟩:=he;exact h.elim
 |goto t=>exact he.elim
 |panic c=>exact he.elim
 |outgrown=>exact he.elim
theorem Z090 (hE:E.ok) (hT:T.ok P) {ops:Array Oper} {K:AState→Prop} {d:List Deferred} {tl:List Nat} {Q:Exit→Act→World→Prop} (i m:Nat) (hm:i+m≤ops.size)
  (hQ:∀ s σ a w,K s→Rel P E s σ ⟨a.tmps,[]⟩ w→a.defers=d→wpOpsIn (WF ro) n P ops Q tl a w) {s:AState} {σ:Sig} {a:Act} {w:World} (hnd:((ops.toList.drop i).take m).all notDefer=true) (hd:a.defers=d) (hR:Rel P E s σ ⟨a.tmps,[]⟩ w)
  (h:arun P T E.nt ops.toList ((ops.toList.drop i).take m) s K):wpOpsIn (WF ro) n P ops Q (List.range' i m ++ tl) a w:=by
 have hl:((ops.toList.drop i).take m).length=m:=by simp;omega
 have:=Z092 (ro:=ro) (n:=n) (ops:=ops) (tl:=tl) (Q:=Q) hE hT hQ ((ops.toList.drop i).take m) i s σ a w (fun j hj=>by
  rw [hl] at hj
  rw [List.getElem?_take_of_lt hj,List.getElem?_drop,Array.getElem?_toList]) hnd hd hR h
 rwa [hl] at this
theorem Z0zc {F:Fence} {ops:Array Oper} {Q:Exit→Act→World→Prop} {i:Nat} {rest:List Nat} {o:Oper} {a:Act} {w:World} (h:ops[i]? = some o) (hg:o.guard=none) (h2:o.wpIn F n P a w (wpOpsIn F n P ops Q rest) Q):wpOpsIn F n P ops Q (i :: rest) a w:=by
 simp only [wpOpsIn,h,Region.wanted,hg,if_true]
 exact h2
theorem Z0zj {m l:Nat} {o:Oper} {a:Act} {w:World} {K:Act→World→Prop} {Q:Exit→Act→World→Prop} {fo:Operand} {args:Array Operand} {ts:Array TypeId} (ho:o.op = .call { callee:=.value fo,args:=args,argTypes:=ts }) (hf:a.eval fo = .func (.yield l) #[] #[])
  {vals:Array Value} (hv:args.map a.eval=vals) {R:Ending→World→Prop} (hy:∃ fn' tmps assign' body',(Instr.yield l vals).run P w = .ok (.round l fn' tmps assign' body') w∧RoundIn (WF none) m P l fn' tmps assign' body' w R)
  (hK:∀ e w',R e w'→∃ v,e = .returned v∧K (a.put o.dst v) w'):o.wpIn (WF none) (m+1) P a w K Q:=by
 subst hv
 obtain⟨fn',tmps,assign',body',h1,h2⟩:=hy
 refine⟨fun _ _=>trivial,?_⟩
 have h3:((o.semAt (WF none).round a.eval).run P w) = .ok (.round l fn' tmps assign' body') w:=by
  rw [Oper.semAt_eq _ _ _ (fun c e=>by rw [ho] at e;cases e)]
  simp [execOp,ho,resolve,Deferred.ofValue,hf,invoke,h1]
 rw [h3]
 refine⟨fun h=>(by cases h),h2.mono fun e w' he=>?_⟩
 obtain⟨v,rfl,hv⟩:=hK e w' he
 exact hv
end
theorem Z0o0 (b:Nat):¬ owned (fun _=>none) b:=fun⟨_,_,h,_⟩=>by cases h
theorem Z0ia {M:Nat→Prop} {W:World} (hM:∀ b,M b→b < W.heap.size) (hg:Glob W M):Inv (fun _=>False) M (fun _=>none) W:=
 ⟨fun _ _ _ _ _ e=>(by cases e),fun b h=>absurd h (Z0o0 b),fun b h=>⟨hM b h,Z0o0 b⟩,fun _ h=>h.elim,hg.mono (Same.refl _ _) fun b _ h=>h.elim id fun h=>absurd h (Z0o0 b)⟩
theorem Z0px {P:Program} {nt:Nat} {args:List AV} {vals:Array Value} {M:Nat→Prop} {W:World} (hl:vals.size=args.length) (hn:args.length≤nt) (hp:noRefs args=true)
  (hA:∀ i x,args[i]? = some x→AR P W (fun _=>False) M (fun _=>none) x (vals.getD i undef)):Rel P (reE nt M (fun _=>none) W) ⟨argTm 0 args,[]⟩ (fun _=>none) ⟨vals ++ Array.replicate (nt - vals.size) undef,[]⟩ W:=by
 have hget:∀ t x,getT (argTm 0 args) t=x→x = .junk∨args[t]? = some x:=by
  intro t x e
  rw [Z08r,if_neg (by omega)] at e
  cases ha:args[t - 0]? with
  |none=>rw [ha] at e;exact .inl e.symm
  |some y=>rw [ha] at e;simp at e ha;subst e;exact .inr rfl
 refine⟨by simp;omega,rfl,fun t=>?_,fun l o e=>by simp [getO] at e,fun _ _=>rfl,fun t l hl'=>?_,fun i o e=>by simp [getO] at e,fun l l' loc loc' b e=>(by cases e),fun b hb=>.inl hb,FExt.refl _ _,fun l loc e=>?_⟩
 ·rcases hget t _ rfl with e|e
  ·rw [e];exact .junk _
  ·have hlt:t < args.length:=(List.getElem?_eq_some_iff.1 e).1
   have h2:=hA t _ e
   rw [Z0g0 (by omega)]
   exact h2.mono (Same.refl _ _) (fun b _ h=>h.elim id fun h=>absurd h (Z0o0 b)) (fun _ h=>h.elim) (fun _ _ _ e=>e)
 ·rcases hget t _ rfl with e|e
  ·rw [e] at hl';simp [refs] at hl'
  ·rw [Z0lw hp t _ e] at hl';simp at hl'
 ·have e:pinOf (fun _=>none) l=some loc:=e
  unfold pinOf at e
  split at e<;>cases e
def endQ (K:AState→Prop):AExit→AState→Prop
 | .exit _,_=>False
 | .normal,s=>K s
 | .ret,s=>K s
def exit0Q (K:AState→Prop):AExit→AState→Prop
 | .exit 0,s=>K s
 |_,_=>False
def fnQ (fn:Func) (g:FuncId) (caps:List PV) (s:AState):Prop:=
 match s with
 |⟨tm,ob⟩=>match fn.results.toList with
  | [.tmp t]=>borrowV (getO ob) (getT tm t) = .fn g (caps.map .pv)
  |_=>False
def fnE (fn:Func) (g:FuncId) (caps:List PV):AExit→AState→Prop
 | .exit _,_=>False
 | .normal,s=>fnQ fn g caps s
 | .ret,s=>fnQ fn g caps s
theorem AC.of_awp_fn {P:Program} {T:Tab} {f:FuncId} {fn:Func} {c:Code} {args:List AV} {g:FuncId} {caps:List PV} (hT:T.ok P) (hm:P.follows .mixedOrders=true) (hcall:∀ (vals:Array Value) (w:World),(callFunc f vals).run P w = .ok (.enter f vals) w)
  (hf:P.funcs[f]? = some fn) (hb:fn.body=some c) (hn:Nat.ble args.length fn.ntmps=true) (hp:noRefs args=true) (h:awp P T fn.ntmps c ⟨argTm 0 args,[]⟩ (fnE fn g caps)):AC P f args [] (.fn g (caps.map .pv)) []:=by
 refine⟨hcall,fun St M0 σ w vals hi hσ _ hl hA=>?_⟩
 have hσ':σ=fun _=>none:=funext fun l=>hσ l rfl
 subst hσ'
 have hown:∀ b,¬ owned (fun _=>none) b:=fun b ⟨l,loc,h,_⟩=>by cases h
 have hle:=Nat.le_of_ble_eq_true hn
 have hE:FEnv.ok ⟨fn.ntmps,St,M0,fun _=>False,w,fun _=>none⟩:=⟨fun b hb=>⟨(hi.m0 b hb).1,id⟩,fun b hb=>⟨(hi.st b hb).1,id⟩,hi.gl.mono (Same.refl _ w) (fun b _ hb=>.inl (hb.elim id False.elim)),fun _ _ e=>by cases e⟩
 have hget:∀ t x,getT (argTm 0 args) t=x→x = .junk∨args[t]? = some x:=by
  intro t x e
  rw [Z08r,if_neg (by omega)] at e
  cases ha:args[t - 0]? with
  |none=>rw [ha] at e;exact .inl e.symm
  |some y=>rw [ha] at e;simp at e ha;subst e;exact .inr rfl
 have hR:Rel P ⟨fn.ntmps,St,M0,fun _=>False,w,fun _=>none⟩ ⟨argTm 0 args,[]⟩ (fun _=>none) { tmps:=vals ++ Array.replicate (fn.ntmps - vals.size) undef,defers:=[] } w:=by
  refine⟨by simp;omega,rfl,fun t=>?_,fun l o e=>by simp [getO] at e,fun _ _=>rfl,fun t l hl'=>?_,fun i o e=>by simp [getO] at e,fun l l' loc loc' b e=>(by cases e),fun b hb=>absurd hb (hown b),FExt.refl _ w,fun _ _ e=>by cases e⟩
  ·rcases hget t _ rfl with e|e
   ·rw [e];exact .junk _
   ·have:=hA t _ e
    have hlt:t < args.length:=(List.getElem?_eq_some_iff.1 e).1
    rw [Z0g0 (by omega)]
    exact this
  ·rcases hget t _ rfl with e|e
   ·rw [e] at hl';simp [refs] at hl'
   ·rw [Z0lw hp t _ e] at hl';simp at hl'
 refine calls_of_wp hf hb (wp_mono (Z09o hE hT hm c _ _ _ _ w hR h) (fun e a' w' he=>?_))
 have fin:(∃ s σ,fnQ fn g caps s∧Rel P ⟨fn.ntmps,St,M0,fun _=>False,w,fun _=>none⟩ s σ a' w')→a'.defers = []∧∃ v,(results fn a'.tmps).run P w' = .ok v w'∧∃ v_1 σ',Ending.returned v = .returned v_1∧Post P St M0 (fun _=>none) w [] (.fn g (caps.map .pv)) σ' v_1 w':=by
  rintro ⟨⟨tm,ob⟩,σ,hq,hR'⟩
  unfold fnQ at hq
  simp only at hq
  split at hq
  ·rename_i t hr
   refine⟨hR'.df,a'.tmps.getD t undef,by rw [Z0q7 hr];simp [rvRun],_,fun _=>none,rfl,?_⟩
   have hA:=Z0a9 (ob:=getO ob) (L:=refs (getT tm t)) (hR'.inv hE) (hR'.tm t) (fun l hl=>hl) (fun l _ obj e=>hR'.ob l obj e)
   rw [hq] at hA
   refine⟨?_,fun l o e=>by simp [getO] at e,fun _ _=>rfl,fun l loc loc' e=>(by cases e),fun l l' loc loc' b e=>(by cases e),fun b hb=>absurd hb (hown b),hR'.ext.mono (fun _ _ h=>h.elim)⟩
   generalize a'.tmps.getD t undef=v at hA
   cases hA with
   |fn _ _ vs hl h=>
    refine .fn _ _ _ hl fun i c e=>?_
    have h2:=h i c e
    obtain⟨p,hp,rfl⟩:∃ p,caps[i]? = some p∧.pv p=c:=by simpa using e
    exact .pv _ _ ((arg_pv h2).mono (Same.refl _ w') (fun b _ hb=>.inl (hb.elim id fun h=>absurd h (hown b))))
  ·exact hq.elim
 cases e with
 |normal=>exact fin he
 |ret=>exact fin he
 |exit i=>obtain⟨s,σ,hq,_⟩:=he;exact hq.elim
 |goto l=>exact he.elim
 |panic c=>exact he.elim
 |outgrown=>exact he.elim
theorem Z0l0 {P:Program} {T:Tab} {nt n:Nat} {fn:Func} {St M0 M1:Nat→Prop} {σ2 σ3:Sig} {w W W':World} {s:AState} {res:PV} {a':Act} {D:Nat} (hT:T.ok P) (hiW:Inv (fun _=>False) M1 σ2 W) (hR:Rel P (reE nt M1 σ2 W) s σ3 ⟨a'.tmps,[]⟩ W') (hbox:boxF s.ob=true)
  (hq:resQ T fn.results.toList res s) (hfl:flatP res=true) (hD:M1 D) (hDw:w.heap.size≤D) (hWD:W.heap[D]? = some (.deferred (some []))) (hd:a'.defers = [{ target:=.collected D,args:=#[] }]) (hx:FExt (fun b=>w.heap.size≤b) w W) (hown:∀ b,owned σ2 b→w.heap.size≤b) :
  LeavesInM (WF none) n P fn a'.tmps (fun e w'=>∃ v σ',e = .returned v∧Post P St M0 (fun _=>none) w [] (.pv res) σ' v w') a'.defers .returning W':=by
 have hE:=reE_ok (nt:=nt) hiW
 have hi3:=hR.inv hE
 have hD':W'.heap[D]? = some (.deferred (some [])):=(hR.ext.block D (hiW.m0 D hD).1 (hiW.m0 D hD).2).trans hWD
 rw [hd]
 refine⟨by simp,.inl ⟨D,_,rfl,run_takeDeferred hD',?_⟩⟩
 have hput:FExt (fun b=>b=D) W' (W'.putObj D (.deferred none)):=Z0dh _
 have hs:Same (Mof M1 σ3) W' (W'.putObj D (.deferred none)):=hput.same.mono fun b _ e=>.inl (e ▸ hD)
 have hR2:Rel P (reE nt M1 σ3 (W'.putObj D (.deferred none))) ⟨s.tm,s.ob⟩ σ3 ⟨a'.tmps,[]⟩ (W'.putObj D (.deferred none)):=Rel.to hR hi3 hs (fun _=>Iff.rfl) (fun i o e=>by
  obtain⟨cs,rfl,hc⟩:=Z0ac hbox e
  exact⟨rfl,obj_at (hR.ob i _ e) hc (fun _ h=>h) (fun b hb=>World.putObj_heap_other (fun e=>(hi3.m0 D hD).2 (e ▸ hb)))⟩)
 obtain⟨v,hr,hv⟩:=Z0q8 (reE_ok (Z0ib hi3 hs)) hT hR2 hq
 refine⟨v,hr,v,fun _=>none,rfl,.pv _ _ (hv.flat hfl),fun l o e=>by simp [getO] at e,fun _ _=>rfl,fun l loc loc' e=>(by cases e),fun l l' loc loc' b e=>(by cases e),fun b hb=>absurd hb (Z0o0 b),?_⟩
 have h:=hx.trans ((hR.ext.mono (F':=fun b=>w.heap.size≤b) fun b _ hb=>hown b hb).trans (hput.mono fun b _ e=>e ▸ hDw))
 exact h.mono fun b hb hh=>absurd hh (by omega)
end Go.Abs
namespace Go.Abs
open Go.Proofs
set_option maxRecDepth 10000
theorem Z012 (v:Vw) (ks:List Ex):AC Tryz.prog 212 [.pv (.agg (cVw v)),.pv (roL 11 cEx ks)] [] (.fn 248 ([.cell [roL 11 cEx ks],.cell (cVw v)].map .pv)) []:=by
 refine AC.of_awp_fn (T:=T) T_ok hm Tryz.call212 Tryz.func212 rfl rfl rfl ?_
 conv=>whnf
 rfl
def kidS (v:Vw) (ks:List Ex) (l k:Nat):AState:=⟨[(0,.pv (.val (.func (.yield l) #[] #[]))),(2,.pv (.cell (cVw v))),(6,.pv (roL 11 cEx ks)),(7,.pv (vint ks.length)),(8,.pv (vint k))],[]⟩
def kidX (v:Vw) (ks:List Ex) (k:Nat):PV × PV:=(.agg (cVal (fndV (evR v (ks.getD k default))).1),vbool (fndV (evR v (ks.getD k default))).2)
def slotN:Value→Nat
 | .int _ i=>i.toNat
 |_=>0
theorem Z0jl (v:Vw) (ks:List Ex) (hl:smallL ks) (ih:∀ i,i < ks.length→AC Tryz.prog 98 [.pv (.agg (cVw v)),.pv (.agg (cEx (ks.getD i default)))] [] (.pv (.tup [.agg (cVal (fndV (evR v (ks.getD i default))).1),vbool (fndV (evR v (ks.getD i default))).2])) [])
  {M:Nat→Prop} {W:World} {c0 c1:Value} (hM:∀ b,M b→b < W.heap.size) (hg:Glob W M) (h0:PR W M (.cell [roL 11 cEx ks]) c0) (h1:PR W M (.cell (cVw v)) c1):Yields Tryz.prog 248 #[c0,c1] M ks.length (kidX v ks) W:=by
 have hl2:ks.length≤1048576:=hl
 intro l J Jx hJ0 hJ hJx hY
 refine(callsIn_wf (n:=1) (ro:=none)).1 (callsIn_of_wp Tryz.func248 rfl trivial ?_)
 have hi0:=Z0ia hM hg
 have hR0:Rel Tryz.prog (reE 21 M (fun _=>none) W) ⟨argTm 0 [.pv (.val (.func (.yield l) #[] #[])),.pv (.cell [roL 11 cEx ks]),.pv (.cell (cVw v))],[]⟩ (fun _=>none) ⟨#[.func (.yield l) #[] #[]] ++ #[c0,c1] ++ Array.replicate (21 - 3) undef,[]⟩ W:=
  Z0px rfl (Nat.le_of_ble_eq_true rfl) rfl (fun i x e=>by
   match i,e with
   |0,e=>simp at e;subst e;exact .pv _ _ (.val _)
   |1,e=>simp at e;subst e;exact .pv _ _ h0
   |2,e=>simp at e;subst e;exact .pv _ _ h1
   |i+3,e=>simp at e)
 refine wpIn_seq (wpIn_mono (Z09p (ro:=none) (n:=1) (d:=[]) (reE_ok hi0) T_ok _ _ (contQ fun s=>∃ r,entS r s (kidS v ks l 0)) _ _ _ rfl rfl hR0 ?_) ?_)
 ·conv=>whnf
  refine⟨[],?_⟩
  (repeat' (first|exact PSub.rfl|exact rfl|exact PSubs.rfl|exact trivial|exact PSub.lit_sb rfl|refine And.intro ?_ ?_))
 rintro e a1 w1 ⟨hd1,he⟩
 cases e with
 |normal=>
  obtain⟨s1,σ1,⟨r,hent⟩,hR1⟩:=he
  obtain⟨σ1',hR1⟩:=Z0cn hent _ σ1 _ w1 (reE_ok hi0) hR1
  have hσ1:σ1'=fun _=>none:=funext fun i=>hR1.nob i rfl
  subst hσ1
  have toR:∀ {k:Nat} {a:Act} {w A:World} {S:AState},S.ob = []→Inv (fun _=>False) M (fun _=>none) A→Rel Tryz.prog (reE 21 M (fun _=>none) A) S (fun _=>none) ⟨a.tmps,[]⟩ w→Inv (fun _=>False) M (fun _=>none) w∧Rel Tryz.prog (reE 21 M (fun _=>none) w) S (fun _=>none) ⟨a.tmps,[]⟩ w∧FExt (fun _=>False) A w:=by
   intro k a w A S hS hiA hR
   have hx:FExt (fun _=>False) A w:=hR.ext.mono fun b _ h=>absurd h (Z0o0 b)
   have hiw:=hR.inv (reE_ok hiA)
   refine⟨hiw,?_,hx⟩
   have:=Rel.to (ob2:=S.ob) hR hiw (Same.refl _ w) (fun _=>Iff.rfl) (fun i o e=>by rw [hS] at e;simp [getO] at e)
   exact this
  obtain⟨hi1,hR1,hx1⟩:=toR (k:=0) rfl hi0 hR1
  have hJ1:=hJ 0 W w1 hJ0 hx1
  clear hR0 hent hx1
  refine wpIn_block (wpIn_loop (fun a w=>∃ k,k≤ks.length∧J k w∧a.defers = []∧Inv (fun _=>False) M (fun _=>none) w∧Rel Tryz.prog (reE 21 M (fun _=>none) w) (kidS v ks l k) (fun _=>none) ⟨a.tmps,[]⟩ w) (fun a _=>ks.length - slotN (a.tmps.getD 8 undef)) ⟨0,Nat.zero_le _,hJ1,hd1,hi1,hR1⟩ ?_)
  clear hR1 hi1 hJ1 hd1 hJ0 hi0 h0 h1 hg hM
  rintro a w ⟨k,hk,hJk,hd,hi,hR⟩
  have hE:=reE_ok (nt:=21) hi
  have hμ:slotN (a.tmps.getD 8 undef)=k:=by
   have h8:=hR.tm 8
   rw [show(⟨a.tmps,[]⟩:Act).tmps.getD 8 undef = .int .i64 (k:Int) from pr_val (arg_pv h8)] at *
   have:=pr_val (arg_pv h8)
   rw [this]
   show(k:Int).toNat=k
   omega
  rcases Nat.lt_or_ge k ks.length with hlt|hge
  ·-- one value is handed to yield
   refine wpIn_seq (wpIn_mono (Z09p (ro:=none) (n:=1) (d:=[]) hE T_ok _ _ (contQ fun s=>∃ r,entS r s ⟨(9,.pv (.val (.bool true))) ::(kidS v ks l k).tm,[]⟩) _ _ _ rfl hd hR ?_) ?_)
   ·conv=>whnf
    refine⟨[],?_⟩
    refine And.intro ?_ ?_
    ·exact PSub.sb_lit (decide_eq_true (by omega))
    ·(repeat' (first|exact PSub.rfl|exact rfl|exact PSubs.rfl|exact trivial|exact PSub.lit_sb rfl|refine And.intro ?_ ?_))
   rintro e a2 w2 ⟨hd2,he⟩
   cases e with
   |normal=>
    obtain⟨s2,σ2,⟨r2,hent2⟩,hR2⟩:=he
    obtain⟨σ3,hR2⟩:=Z0cn hent2 _ σ2 _ w2 hE hR2
    clear hent2
    refine wpIn_seq (wpIn_cond_true (pr_val (arg_pv (hR2.tm 9))) (wpIn_skip ?_))
    refine wpIn_seq (wpIn_block (wpIn_seq (wpIn_mono (Z09p (ro:=none) (n:=1) (d:=[]) hE T_ok _ _ (contQ fun s=>∃ r,entS r s ⟨(5,.ptr 5 0) ::(kidS v ks l k).tm,[(5,.pbox (cEx (ks.getD k default)))]⟩) _ _ _ rfl hd2 hR2 ?_) ?_)))
    ·conv=>whnf
     repeat (any_goals (first
      |(refine And.intro (by(try simp only [Int.toNat_natCast]);omega) ?_;conv=>whnf)))
     refine⟨[],?_⟩
     (repeat' (first|exact PSub.rfl|exact rfl|exact PSubs.rfl|exact trivial|exact PSub.lit_sb rfl|refine And.intro ?_ ?_))
    rintro e a3 w3 ⟨hd3,he⟩
    cases e with
    |normal=>
     obtain⟨s4,σ4,⟨r4,hent4⟩,hR3⟩:=he
     obtain⟨σ5,hR3⟩:=Z0cn hent4 _ σ4 _ w3 hE hR3
     clear hent4 hR2
     refine wpIn_seq (wpIn_region ?_)
     change wpOpsIn _ _ _ _ _ (List.range' 0 6 ++ [6,7]) _ _
     refine Z090 (d:=[]) (K:=fun s=>∃ r,entS r s ⟨(12,.pv (.val (.func (.yield l) #[] #[]))) ::(16,.pv (kidX v ks k).1) ::(17,.pv (kidX v ks k).2) ::(kidS v ks l k).tm,[]⟩) hE T_ok 0 6 (Nat.le_of_ble_eq_true rfl) ?_ rfl hd3 hR3 ?_
     ·intro s5 σ6 a4 w4 hent hR4 hd4
      obtain⟨r5,hent⟩:=hent
      obtain⟨σ7,hR4⟩:=Z0cn hent _ σ6 _ w4 hE hR4
      have hσ7:σ7=fun _=>none:=funext fun i=>hR4.nob i rfl
      subst hσ7
      clear hent hR3
      have hi4:=hR4.inv hE
      have hJ4:=hJ k w w4 hJk (hR4.ext.mono fun b _ h=>absurd h (Z0o0 b))
      have toM:∀ {p:PV} {x:Value},PR w4 (Mof M (fun _=>none)) p x→PR w4 M p x:=fun h=>h.mono (Same.refl _ _) fun b _ h=>.inl h
      have h16:PR w4 M (kidX v ks k).1 (a4.eval (.tmp 16)):=toM (arg_pv (hR4.tm 16))
      have h17:PR w4 M (kidX v ks k).2 (a4.eval (.tmp 17)):=toM (arg_pv (hR4.tm 17))
      refine Z0zc rfl rfl (Z0zj (m:=0) rfl (pr_val (arg_pv (hR4.tm 12))) (by simp) (hY k w4 #[a4.eval (.tmp 16),a4.eval (.tmp 17)] hlt hJ4 rfl h16 h17) ?_)
      rintro e5 w5 ⟨hs,he5⟩
      have hs':Same (Mof M (fun _=>none)) w4 w5:=hs.mono fun b _ h=>.inl h
      have hi5:=Z0ib hi4 hs'
      have hE5:=reE_ok (nt:=21) hi5
      have hR5:∀ b,Rel Tryz.prog (reE 21 M (fun _=>none) w5) ⟨(18,.pv (.val (.bool b))) ::(12,.pv (.val (.func (.yield l) #[] #[]))) ::(16,.pv (kidX v ks k).1) ::(17,.pv (kidX v ks k).2) ::(kidS v ks l k).tm,[]⟩ (fun _=>none) ⟨(a4.put (some 18) (.bool b)).tmps,[]⟩ w5:=fun b=>
       Rel.putA (E:=reE 21 M (fun _=>none) w5) (s:=⟨_,[]⟩) (Rel.to (ob2:=[]) hR4 hi4 hs' (fun _=>Iff.rfl) (fun i o e=>by simp [getO] at e)) (Nat.le_of_ble_eq_true rfl) (.val _)
      rcases he5 with ⟨rfl,hJ5⟩|⟨rfl,hJx5⟩
      ·refine⟨_,rfl,?_⟩
       change wpOpsIn _ _ _ _ _ (List.range' 7 1 ++ []) _ _
       refine Z090 (d:=[]) (K:=fun s=>∃ r,entS r s ⟨(19,.pv (.val (.bool false))) ::(kidS v ks l k).tm,[]⟩) hE5 T_ok 7 1 (Nat.le_of_ble_eq_true rfl) ?_ rfl hd4 (hR5 true) ?_
       ·intro s6 σ8 a6 w6 hent hR6 hd6
        obtain⟨r6,hent⟩:=hent
        obtain⟨σ9,hR6⟩:=Z0cn hent _ σ8 _ w6 hE5 hR6
        refine wpIn_cond_false (pr_val (arg_pv (hR6.tm 19))) (wpIn_skip ?_)
        refine wpIn_mono (Z09p (ro:=none) (n:=1) (d:=[]) hE5 T_ok _ _ (contQ fun s=>∃ r,entS r s (kidS v ks l (k+1))) _ _ _ rfl hd6 hR6 ?_) ?_
        ·conv=>whnf
         repeat (any_goals (first
          |(refine .inl ⟨wrap64 (by omega),?_⟩;conv=>whnf)))
         refine⟨[],?_⟩
         (repeat' (first|exact PSub.rfl|exact rfl|exact PSubs.rfl|exact trivial|exact PSub.lit_sb rfl|refine And.intro ?_ ?_))
        rintro e a7 w7 ⟨hd7,he⟩
        cases e with
        |normal=>
         obtain⟨s7,σ10,⟨r7,hent7⟩,hR7⟩:=he
         obtain⟨σ11,hR7⟩:=Z0cn hent7 _ σ10 _ w7 hE5 hR7
         have hσ11:σ11=fun _=>none:=funext fun i=>hR7.nob i rfl
         subst hσ11
         obtain⟨hi7,hR7,hx7⟩:=toR (k:=0) rfl hi5 hR7
         refine⟨⟨k+1,hlt,hJ _ _ _ hJ5 hx7,hd7,hi7,hR7⟩,?_⟩
         rw [hμ,show slotN (a7.tmps.getD 8 undef)=k+1 from by
          have:=pr_val (arg_pv (hR7.tm 8))
          rw [this]
          show((k+1:Nat):Int).toNat=k+1
          omega]
         omega
        |exit i=>obtain⟨_,_,h,_⟩:=he;exact h.elim
        |ret=>obtain⟨_,_,h,_⟩:=he;exact h.elim
        |goto t=>exact he.elim
        |panic c=>exact he.elim
        |outgrown=>exact he.elim
       ·conv=>whnf
        refine⟨[],?_⟩
        refine And.intro (PSub.sb_lit rfl) ?_
        (repeat' (first|exact PSub.rfl|exact rfl|exact PSubs.rfl|exact trivial|exact PSub.lit_sb rfl|refine And.intro ?_ ?_))
      ·refine⟨_,rfl,?_⟩
       change wpOpsIn _ _ _ _ _ (List.range' 7 1 ++ []) _ _
       refine Z090 (d:=[]) (K:=fun s=>∃ r,entS r s ⟨(19,.pv (.val (.bool true))) ::(kidS v ks l k).tm,[]⟩) hE5 T_ok 7 1 (Nat.le_of_ble_eq_true rfl) ?_ rfl hd4 (hR5 false) ?_
       ·intro s6 σ8 a6 w6 hent hR6 hd6
        obtain⟨r6,hent⟩:=hent
        obtain⟨σ9,hR6⟩:=Z0cn hent _ σ8 _ w6 hE5 hR6
        refine wpIn_cond_true (pr_val (arg_pv (hR6.tm 19))) (wpIn_ret ?_)
        have hx6:FExt (fun _=>False) w5 w6:=hR6.ext.mono fun b _ h=>absurd h (Z0o0 b)
        exact⟨hd6,_,results_none rfl _ _ _,_,rfl,.inr (hJx _ _ hJx5 hx6)⟩
       ·conv=>whnf
        refine⟨[],?_⟩
        refine And.intro (PSub.sb_lit rfl) ?_
        (repeat' (first|exact PSub.rfl|exact rfl|exact PSubs.rfl|exact trivial|exact PSub.lit_sb rfl|refine And.intro ?_ ?_))
     ·conv=>whnf
      repeat (any_goals (first
       |(refine .inl ⟨_,ih k hlt,?_⟩;conv=>whnf)))
      refine⟨[],?_⟩
      (repeat' (first|exact PSub.rfl|exact rfl|exact PSubs.rfl|exact trivial|exact PSub.lit_sb rfl|refine And.intro ?_ ?_))
    |exit i=>obtain⟨_,_,h,_⟩:=he;exact h.elim
    |ret=>obtain⟨_,_,h,_⟩:=he;exact h.elim
    |goto t=>exact he.elim
    |panic c=>exact he.elim
    |outgrown=>exact he.elim
   |exit i=>obtain⟨_,_,h,_⟩:=he;exact h.elim
   |ret=>obtain⟨_,_,h,_⟩:=he;exact h.elim
   |goto t=>exact he.elim
   |panic c=>exact he.elim
   |outgrown=>exact he.elim
  ·refine wpIn_mono (Z09p (ro:=none) (n:=1) (d:=[]) hE T_ok _ _ (exit0Q fun s=>∃ r,entS r s (kidS v ks l k)) _ _ _ rfl hd hR ?_) ?_
   ·conv=>whnf
    refine⟨fun h=>?_,fun h=>?_⟩<;>(try simp only [Q0,Q1,Q2,Q3,Q4,Q5,Q6,Q7,Q8,reduceCtorEq] at h)<;>(conv=>whnf)
    ·exfalso;omega
    ·refine⟨[],?_⟩
     (repeat' (first|exact PSub.rfl|exact rfl|exact PSubs.rfl|exact trivial|exact PSub.lit_sb rfl|refine And.intro ?_ ?_))
   ·rintro e a2 w2 ⟨hd2,he⟩
    cases e with
    |exit i=>
     obtain⟨s2,σ2,h2,hR2⟩:=he
     match i,h2 with
     |0,⟨r2,hent2⟩=>
      obtain⟨σ3,hR2⟩:=Z0cn hent2 _ σ2 _ w2 hE hR2
      have hJ2:=hJ k w w2 hJk (hR2.ext.mono fun b _ h=>absurd h (Z0o0 b))
      have hkN:k=ks.length:=by omega
      subst hkN
      exact⟨hd2,_,results_none rfl _ _ _,_,rfl,.inl hJ2⟩
    |normal=>obtain⟨_,_,h,_⟩:=he;exact h.elim
    |ret=>obtain⟨_,_,h,_⟩:=he;exact h.elim
    |goto t=>exact he.elim
    |panic c=>exact he.elim
    |outgrown=>exact he.elim
 |exit i=>obtain⟨_,_,h,_⟩:=he;exact h.elim
 |ret=>obtain⟨_,_,h,_⟩:=he;exact h.elim
 |goto t=>exact he.elim
 |panic c=>exact he.elim
 |outgrown=>exact he.elim
theorem jun_ok {x:Val} (h:(fndV x).2=true):(fndV x).1=x∧x.kind≠0:=by
 by_cases hk:x.kind=0
 ·rw [Z0ew hk] at h;cases h
 ·rw [Z0ey hk];exact⟨rfl,hk⟩
theorem jun_un {x:Val} (h:(fndV x).2=false):x.kind=0:=by
 by_cases hk:x.kind=0
 ·exact hk
 ·rw [Z0ey hk] at h;cases h
def opnB (v:Vw) (ks:List Ex) (k:Nat):Bool:=!decide (∀ j,j < k→(evR v (ks.getD j default)).kind=1)
def jTm (v:Vw) (ks:List Ex):List (Nat × AV):=[(5,.ptr 900005 0),(6,.ptr 900006 0),(7,.ptr 900007 0),(8,.ptr 900008 0),(13,.fn 248 ([.cell [roL 11 cEx ks],.cell (cVw v)].map .pv))]
def jOb (v:Vw) (ks:List Ex) (d:Bool) (k:Nat):List (Nat × AObj):=[(900005,.pbox [vint (if d=true then 1 else 0)]),(900006,.pbox (cVal noVal)),(900007,.pbox [.val (.bool false)]),(900008,.pbox [.sb (opnB v ks k)])]
def jOx (v:Vw) (ks:List Ex) (d:Bool) (k:Nat):List (Nat × AObj):=[(900005,.pbox [vint (if d=true then 1 else 0)]),(900006,.pbox (cVal (truV d))),(900007,.pbox [.sb true]),(900008,.pbox [.sb (opnB v ks k)])]
def jSa (v:Vw) (ks:List Ex) (d:Bool) (k:Nat):AState:=⟨[(9,.ptr 9 0),(10,.pv (kidX v ks k).2),(5,.ptr 900005 0),(6,.ptr 900006 0),(7,.ptr 900007 0),(8,.ptr 900008 0)],(9,.pbox (cVal (fndV (evR v (ks.getD k default))).1)) :: jOb v ks d k⟩
def jFin (v:Vw) (ks:List Ex) (d:Bool) (k:Nat) (r:Val × Bool):AState:=⟨[(6,.ptr 900006 0),(7,.ptr 900007 0)],[(900005,.pbox [vint (if d=true then 1 else 0)]),(900006,.pbox (cVal r.1)),(900007,.pbox [.sb r.2]),(900008,.pbox [.sb (opnB v ks k)])]⟩
theorem Z011 (v:Vw) (ks:List Ex) (d:Bool) (hv:smallV2 v) (hl:smallL ks) (hok:∀ i,i < ks.length→okN (ks.getD i default))
  (ih:∀ i,i < ks.length→AC Tryz.prog 98 [.pv (.agg (cVw v)),.pv (.agg (cEx (ks.getD i default)))] [] (.pv (.tup [.agg (cVal (fndV (evR v (ks.getD i default))).1),vbool (fndV (evR v (ks.getD i default))).2])) []) :
  AC Tryz.prog 153 [.pv (.agg (cVw v)),.pv (roL 11 cEx ks),.pv (vint (if d=true then 1 else 0))] [] (.pv (.tup [.agg (cVal (fndV (chainV (evL v ks) d)).1),vbool (fndV (chainV (evL v ks) d)).2])) []:=by
 refine⟨Tryz.call153,fun St M0 σ w vals hi hσ _ hlv hA=>?_⟩
 have hσ':σ=fun _=>none:=funext fun l=>hσ l rfl
 subst hσ'
 have hM:∀ b,M0 b→b < w.heap.size:=fun b hb=>(hi.m0 b hb).1
 have hg:Glob w M0:=hi.gl.mono (Same.refl _ _) (fun b _ h=>.inl h)
 have hi0:=Z0ia hM hg
 have hE0:=reE_ok (nt:=43) hi0
 have toM:∀ {p:PV} {x:Value},PR w (Mof M0 (fun _=>none)) p x→PR w M0 p x:=fun h=>h.mono (Same.refl _ _) fun b _ h=>.inl h
 have hR0:Rel Tryz.prog (reE 43 M0 (fun _=>none) w) ⟨argTm 0 [.pv (.agg (cVw v)),.pv (roL 11 cEx ks),.pv (vint (if d=true then 1 else 0))],[]⟩ (fun _=>none) ⟨vals ++ Array.replicate (43 - vals.size) undef,[]⟩ w:=
  Z0px hlv (Nat.le_of_ble_eq_true rfl) rfl (fun i x e=>by
   match i,e with
   |0,e=>simp at e;subst e;exact .pv _ _ (toM (arg_pv (hA 0 _ rfl)))
   |1,e=>simp at e;subst e;exact .pv _ _ (toM (arg_pv (hA 1 _ rfl)))
   |2,e=>simp at e;subst e;exact .pv _ _ (toM (arg_pv (hA 2 _ rfl)))
   |i+3,e=>simp at e)
 refine(callsIn_wf (n:=1) (ro:=none)).1 (callsIn_of_wp_marks Tryz.func153 rfl trivial ?_)
 refine pre3 (d:=[]) (K:=fun s=>∃ r,entS r s ⟨jTm v ks,jOb v ks d 0⟩) hE0 T_ok rfl rfl hR0 ?_ ?_
 ·conv=>whnf
  repeat (any_goals (first
   |(refine .inr (.inr (.inr (.inr ⟨[],[],_,_,_,Z012 v ks,rfl,?_⟩)));conv=>whnf)))
  refine⟨[(900005,5),(900006,6),(900007,7),(900008,8)],?_⟩
  (repeat' (first|exact PSub.rfl|exact rfl|exact PSubs.rfl|exact trivial|exact PSub.lit_sb rfl|refine And.intro ?_ ?_))
 rintro s1 σ1 a1 w1 ⟨r,hent⟩ hd1 hR1
 obtain⟨σ2,hR1⟩:=Z0cn hent _ σ1 _ w1 hE0 hR1
 clear hent hR0
 refine wpIn_block ?_
 obtain⟨c0,c1,hc,hc0,hc1⟩:∃ c0 c1,a1.eval (.tmp 13) = .func (.func 248) #[] #[c0,c1]∧PR w1 (Mof M0 σ2) (.cell [roL 11 cEx ks]) c0∧PR w1 (Mof M0 σ2) (.cell (cVw v)) c1:=by
  have h:=hR1.tm 13
  change AR _ _ _ _ _ (.fn 248 ([.cell [roL 11 cEx ks],.cell (cVw v)].map .pv)) (a1.eval (.tmp 13)) at h
  generalize a1.eval (.tmp 13)=x at h ⊢
  cases h with
  |fn _ _ vs hl h=>
   have hl:vs.size=2:=hl
   refine⟨vs.getD 0 undef,vs.getD 1 undef,?_,arg_pv (h 0 _ rfl),arg_pv (h 1 _ rfl)⟩
   congr 1
   apply Array.ext
   ·simpa using hl
   ·intro i h1 h2
    have:i=0∨i=1:=by omega
    rcases this with rfl|rfl<;>simp [Array.getD,hl]
 have hw1:FExt (fun b=>w.heap.size≤b) w w1:=hR1.ext.mono fun b _ h=>absurd h (Z0o0 b)
 have hown:∀ b,owned σ2 b→w.heap.size≤b:=fun b hb=>(hR1.own b hb).elim (fun h=>absurd h (Z0o0 b)) id
 have hkeys:∀ k i,(getO (jOb v ks d k) i=none↔getO (jOb v ks d 0) i=none):=fun k i=>Z0gb (l:=jOb v ks d k) (l':=jOb v ks d 0) rfl i
 have hkx:∀ k i,(getO (jOx v ks d k) i=none↔getO (jOb v ks d 0) i=none):=fun k i=>Z0gb (l:=jOx v ks d k) (l':=jOb v ks d 0) rfl i
 refine Z0pc (d:=[]) (N:=ks.length) (xs:=kidX v ks) (ob:=jOb v ks d) (Sa:=jSa v ks d) (ox:=jOx v ks d) (G:=fun k=>∀ j,j < k→evR v (ks.getD j default)≠truV d) (C:=fun k=>evR v (ks.getD k default)=truV d) T_ok hE0 hd1 hR1 hc Tryz.call248
  (fun M W hMb hMs hgW hx=>Z0jl v ks hl ih hMs hgW (hc0.mono (hx.same.mono fun _ _ h=>h.elim) hMb) (hc1.mono (hx.same.mono fun _ _ h=>h.elim) hMb))
  (fun _ _=>rfl) (fun _ _=>rfl) (fun _ _=>rfl) (fun j h=>absurd h (by omega)) (fun i h=>?_) (fun k _=>hkeys k) (fun k _ i h=>?_) (fun k _=>hkx k) (Nat.le_of_ble_eq_true rfl) (Nat.le_of_ble_eq_true rfl) rfl rfl (fun k hk=>?_) (fun k hk hG=>?_) ?_ ?_
 ·have:=Z0ge h
  simp [jOb] at this
  omega
 ·have h1:=Z0ge h
  intro h2
  have h2:=getO_none.1 h2
  simp [jSa,jOb] at h1 h2
  omega
 ·conv=>whnf
  refine⟨[],?_⟩
  (repeat' (first|exact PSub.rfl|exact rfl|exact PSubs.rfl|exact trivial|exact PSub.lit_sb rfl|refine And.intro ?_ ?_))
 ·have hb:=evR_ok v (hok k hk)
  have htr:AC Tryz.prog 148 [.pv (vbool (decide ((if d=true then (1:Int) else 0)=1)))] [] (.pv (.tup [.agg (cVal (truV d)),vbool true])) []:=by
   rw [show decide ((if d=true then (1:Int) else 0)=1)=d from by cases d<;>rfl]
   exact Z014 d
  have op1:∀ (h:(evR v (ks.getD k default)).kind≠1),true=opnB v ks (k+1):=fun h=>by
   unfold opnB
   rw [decide_eq_false (fun h2=>h (h2 k (by omega)))];rfl
  have op0:∀ (h:(evR v (ks.getD k default)).kind=1),opnB v ks k=opnB v ks (k+1):=fun h=>by
   unfold opnB
   congr 1
   rw [decide_eq_decide]
   exact⟨fun h2 j hj=>(if e:j=k then e ▸ h else h2 j (by omega)),fun h2 j hj=>h2 j (by omega)⟩
  have go1:evR v (ks.getD k default)≠truV d→∀ j,j < k+1→evR v (ks.getD j default)≠truV d:=fun h j hj=>by
   by_cases e:j=k
   ·subst e;exact h
   ·exact hG j (by omega)
  conv=>whnf
  repeat (any_goals (first
   |(refine⟨fun(h:(_:Bool)=true)=>?_,fun(h:(_:Bool)=false)=>?_⟩<;>(try simp only [Q0,Q1,Q2,Q3,Q4,Q5,Q6,Q7,Q8,reduceCtorEq] at h)<;>(conv=>whnf))
   |(refine .inl ⟨_,htr,?_⟩;conv=>whnf)))
  ·refine⟨go1 fun e=>?_,[],?_⟩
   ·rw [e] at h;cases d<;>cases h
   ·have h2:=jun_un h
    (repeat' (first|exact PSub.rfl|exact rfl|exact PSubs.rfl|exact trivial|exact PSub.lit_sb rfl|refine And.intro ?_ ?_))
    exact PSub.lit_sb (op1 (by omega))
  ·have h2:=jun_ok (by assumption)
   rw [h2.1] at h
   refine⟨go1 fun e=>?_,[],?_⟩
   ·rw [e] at h;exact h rfl
   ·(repeat' (first|exact PSub.rfl|exact rfl|exact PSubs.rfl|exact trivial|exact PSub.lit_sb rfl|refine And.intro ?_ ?_))
    exact PSub.lit_sb (op1 h)
  ·rename_i h1 h2
   have h3:=jun_ok h1
   rw [h3.1] at h h2
   refine⟨?_,[],?_⟩
   ·rcases Z0yk hb h2 with e|e
    ·rw [e] at h ⊢;cases d
     ·cases h
     ·rfl
    ·rw [e] at h ⊢;cases d
     ·rfl
     ·cases h
   ·(repeat' (first|exact PSub.rfl|exact rfl|exact PSubs.rfl|exact trivial|exact PSub.lit_sb rfl|refine And.intro ?_ ?_))
  ·rename_i h1 h2
   have h3:=jun_ok h1
   rw [h3.1] at h h2
   refine⟨go1 fun e=>?_,[],?_⟩
   ·rw [e] at h;exact h rfl
   ·(repeat' (first|exact PSub.rfl|exact rfl|exact PSubs.rfl|exact trivial|exact PSub.lit_sb rfl|refine And.intro ?_ ?_))
    rw [←op0 h2];exact PSub.rfl
 ·-- behind the loop
  intro M1 D W hG hMM hD hDw hWD hiW hRW hx
  have hxW:FExt (fun b=>w.heap.size≤b) w W:=hw1.trans (hx.mono fun b _ hb=>hown b hb)
  have hEW:=reE_ok (nt:=43) hiW
  have htr:AC Tryz.prog 148 [.pv (vbool (decide ((if d=true then (1:Int) else 0)=0)))] [] (.pv (.tup [.agg (cVal (truV (!d))),vbool true])) []:=by
   rw [show decide ((if d=true then (1:Int) else 0)=0) = !d from by cases d<;>rfl]
   exact Z014 (!d)
  have hch:chainV (evL v ks) d=if opnB v ks ks.length=true then noVal else truV (!d):=by
   unfold chainV
   have hany:((evL v ks).any fun x=>decide (x=truV d))=false:=by
    rw [List.any_eq_false]
    intro x hx
    obtain⟨i,hi,rfl⟩:=List.getElem_of_mem hx
    have hi2:i < ks.length:=by rw [Z0d2] at hi;exact hi
    have:=hG i hi2
    rw [←Z0d1 v ks i hi2] at this
    simpa [List.getD,hi] using this
   rw [hany]
   have hall:((evL v ks).all fun x=>decide (x.kind=1)) = !opnB v ks ks.length:=by
    unfold opnB
    rw [Bool.not_not,Bool.eq_iff_iff,List.all_eq_true,decide_eq_true_iff]
    constructor
    ·intro h j hj
     rw [←Z0d1 v ks j hj]
     have hj2:j < (evL v ks).length:=by rw [Z0d2];exact hj
     have:=h _ (List.getElem_mem hj2)
     simpa [List.getD,hj2] using this
    ·intro h x hx
     obtain⟨i,hi,rfl⟩:=List.getElem_of_mem hx
     have hi2:i < ks.length:=by rw [Z0d2] at hi;exact hi
     have:=h i hi2
     rw [←Z0d1 v ks i hi2] at this
     simpa [List.getD,hi] using this
   rw [hall]
   cases opnB v ks ks.length<;>rfl
  refine wpIn_mono (Z09p (ro:=none) (n:=1) (d:=[{ target:=.collected D,args:=#[] }]) hEW T_ok _ _ (endQ fun s=>∃ r,entS r s (jFin v ks d ks.length (fndV (chainV (evL v ks) d)))) σ2 _ W rfl rfl hRW ?_) ?_
  ·conv=>whnf
   repeat (any_goals (first
    |(refine⟨fun(h:(_:Bool)=true)=>?_,fun(h:(_:Bool)=false)=>?_⟩<;>(try simp only [Q0,Q1,Q2,Q3,Q4,Q5,Q6,Q7,Q8,reduceCtorEq] at h)<;>(conv=>whnf))
    |(refine .inl ⟨_,Z015,?_⟩;conv=>whnf)
    |(refine .inl ⟨_,htr,?_⟩;conv=>whnf)))
   ·rw [hch,if_pos h,show fndV noVal=(noVal,false) from rfl]
    refine⟨[],?_⟩
    (repeat' (first|exact PSub.rfl|exact rfl|exact PSubs.rfl|exact trivial|exact PSub.lit_sb rfl|refine And.intro ?_ ?_))
   ·rw [hch,if_neg (show ¬ opnB v ks ks.length=true from by rw [h];decide),show fndV (truV (!d))=(truV (!d),true) from rfl]
    refine⟨[],?_⟩
    (repeat' (first|exact PSub.rfl|exact rfl|exact PSubs.rfl|exact trivial|exact PSub.lit_sb rfl|refine And.intro ?_ ?_))
  ·rintro e a3 W3 ⟨hd3,he⟩
   have fin:∀ s σ3,(∃ r,entS r s (jFin v ks d ks.length (fndV (chainV (evL v ks) d))))→Rel Tryz.prog (reE 43 M1 σ2 W) s σ3 ⟨a3.tmps,[]⟩ W3→LeavesInM (WF none) 1 Tryz.prog Tryz.f153 a3.tmps (fun e w'=>∃ x σ',e = .returned x∧Post Tryz.prog St M0 (fun _=>none) w [] (.pv (.tup [.agg (cVal (fndV (chainV (evL v ks) d)).1),vbool (fndV (chainV (evL v ks) d)).2])) σ' x w') a3.defers .returning W3:=by
    rintro s σ3 ⟨r,hent⟩ hR3
    obtain⟨σ4,hR3⟩:=Z0cn hent _ σ3 _ W3 hEW hR3
    exact Z0l0 T_ok hiW hR3 rfl (by refine⟨?_,?_⟩<;>exact PSub.rfl) rfl hD (Nat.le_trans hw1.size hDw) hWD hd3 hxW hown
   cases e with
   |normal=>obtain⟨s,σ3,h1,h2⟩:=he;exact fin s σ3 h1 h2
   |ret=>obtain⟨s,σ3,h1,h2⟩:=he;exact fin s σ3 h1 h2
   |exit i=>obtain⟨_,_,h,_⟩:=he;exact h.elim
   |goto t=>exact he.elim
   |panic c=>exact he.elim
   |outgrown=>exact he.elim
 ·intro M1 D W k hk hC hMM hD hDw hWD hiW hRW hx
  have hxW:FExt (fun b=>w.heap.size≤b) w W:=hw1.trans (hx.mono fun b _ hb=>hown b hb)
  have hEW:=reE_ok (nt:=43) hiW
  have hch:chainV (evL v ks) d=truV d:=by
   unfold chainV
   rw [if_pos]
   rw [List.any_eq_true]
   have hk2:k < (evL v ks).length:=by rw [Z0d2];exact hk
   refine⟨(evL v ks)[k],List.getElem_mem hk2,decide_eq_true ?_⟩
   have:=Z0d1 v ks k hk
   rw [hC] at this
   simpa [List.getD,hk2] using this
  have hent:entS [] ⟨jTm v ks,jOx v ks d k⟩ (jFin v ks d k (fndV (chainV (evL v ks) d))):=by
   rw [hch,show fndV (truV d)=(truV d,true) from rfl]
   (repeat' (first|exact PSub.rfl|exact rfl|exact PSubs.rfl|exact trivial|exact PSub.lit_sb rfl|refine And.intro ?_ ?_))
  obtain⟨σ4,hR3⟩:=Z0cn hent _ σ2 _ W hEW hRW
  exact Z0l0 (a':=⟨a1.tmps,[{ target:=.collected D,args:=#[] }]⟩) T_ok hiW hR3 rfl (by refine⟨?_,?_⟩<;>exact PSub.rfl) rfl hD (Nat.le_trans hw1.size hDw) hWD rfl hxW hown
end Go.Abs
namespace Go.Abs
open Go.Proofs
set_option maxRecDepth 10000
theorem fnd_ok {x:Val} (h:(fndV x).2=true):(fndV x).1=x∧x.kind≠0:=by
 by_cases hk:x.kind=0
 ·rw [Z0ew hk] at h;cases h
 ·rw [Z0ey hk];exact⟨rfl,hk⟩
theorem fnd_un {x:Val} (h:(fndV x).2=false):x.kind=0:=by
 by_cases hk:x.kind=0
 ·exact hk
 ·rw [Z0ey hk] at h;cases h
theorem Z088 {x:Int} (h:0≤x∧x≤1000000):abits .and .i64 x 1=x.tmod 2:=by
 obtain⟨n,rfl⟩:∃ n:Nat,x=n:=⟨x.toNat,by omega⟩
 show IntKind.i64.wrap (((BitVec.ofInt IntKind.i64.bits (n:Int) &&& BitVec.ofInt IntKind.i64.bits 1).toNat:Nat):Int)=_
 have h1:(BitVec.ofInt IntKind.i64.bits (n:Int) &&& BitVec.ofInt IntKind.i64.bits 1).toNat=n % 2:=by
  rw [BitVec.toNat_and]
  have e1:(BitVec.ofInt IntKind.i64.bits (n:Int)).toNat=n:=by
   rw [BitVec.ofInt_natCast,BitVec.toNat_ofNat]
   exact Nat.mod_eq_of_lt (by show n < 2 ^ 64;omega)
  have e2:(BitVec.ofInt IntKind.i64.bits 1).toNat=1:=by decide
  rw [e1,e2,Nat.and_one_is_mod]
 rw [h1,wrap64 (by omega),Int.tmod_eq_emod_of_nonneg (by omega)]
 omega
theorem day_in {n w:Int} (h:1≤n∧n≤127):0≤n.fdiv (2 ^ min w.toNat 64)∧n.fdiv (2 ^ min w.toNat 64)≤1000000:=by
 have hm:(0:Int) < 2 ^ min w.toNat 64:=Int.pow_pos (by decide)
 rw [Int.fdiv_eq_ediv_of_nonneg _ (Int.le_of_lt hm)]
 exact⟨Int.ediv_nonneg (by omega) (by omega),Int.le_trans (Int.ediv_le_self _ (by omega)) (by omega)⟩
def iteV (l:List Val):Val:=if (l.getD 0 default).kind≠1 then noVal else l.getD (2 - (l.getD 0 default).n).toNat default
theorem Z00x (v:Vw) (ks:List Ex) (h3:ks.length=3) (hok:∀ i,i < ks.length→okN (ks.getD i default))
  (ih:∀ i,i < ks.length→AC Tryz.prog 98 [.pv (.agg (cVw v)),.pv (.agg (cEx (ks.getD i default)))] [] (.pv (.tup [.agg (cVal (fndV (evR v (ks.getD i default))).1),vbool (fndV (evR v (ks.getD i default))).2])) []) :
  AC Tryz.prog 154 [.pv (.agg (cVw v)),.pv (roL 11 cEx ks)] [] (.pv (.tup [.agg (cVal (fndV (iteV (evL v ks))).1),vbool (fndV (iteV (evL v ks))).2])) []:=by
 have g:∀ i,i < 3→(evL v ks).getD i default=evR v (ks.getD i default):=fun i hi=>Z0d1 v ks i (by omega)
 have hb:=evR_ok v (hok 0 (by omega))
 unfold iteV
 rw [g 0 (by omega)]
 refine AC.of_awp (T:=T) T_ok hm Tryz.call154 Tryz.func154 rfl rfl rfl ?_
 conv=>whnf
 repeat (any_goals (first
  |(refine⟨fun(h:(_:Bool)=true)=>?_,fun(h:(_:Bool)=false)=>?_⟩<;>(try simp only [Q0,Q1,Q2,Q3,Q4,Q5,Q6,Q7,Q8,reduceCtorEq] at h)<;>(conv=>whnf))
  |(refine .inl ⟨_,ih 0 (by omega),?_⟩;conv=>whnf)
  |(refine .inl ⟨_,ih 1 (by omega),?_⟩;conv=>whnf)
  |(refine .inl ⟨_,ih 2 (by omega),?_⟩;conv=>whnf)
  |(refine .inl ⟨_,Z015,?_⟩;conv=>whnf)
  |(refine And.intro (by(try simp only [Int.toNat_natCast]);omega) ?_;conv=>whnf)
  |(refine And.intro (show(_:Bool)=true from by kernel_rfl) ?_;conv=>whnf)))
 ·rw [show fndV (if (evR v (ks.getD 0 default)).kind≠1 then noVal else (evL v ks).getD (2 - (evR v (ks.getD 0 default)).n).toNat default)=(noVal,false) from by
   rw [if_pos (by have:=fnd_un h;omega)];rfl]
  refine⟨?_,?_⟩<;>(conv=>whnf)
  ·repeat' (first|exact PSub.rfl|exact PSub.nil_ro _ _|exact PSub.lit_sb rfl|exact trivial|exact Z085|refine PSub.agg ?_|refine PSub.ro rfl ?_|refine Z084 ?_ ?_|refine And.intro ?_ ?_)
  ·repeat' (first|exact PSub.rfl|exact PSub.nil_ro _ _|exact PSub.lit_sb rfl|exact trivial|exact Z085|refine PSub.agg ?_|refine PSub.ro rfl ?_|refine Z084 ?_ ?_|refine And.intro ?_ ?_)
 ·rename_i h1
  have hf:=fnd_ok h1
  rw [hf.1] at h
  rw [show fndV (if (evR v (ks.getD 0 default)).kind≠1 then noVal else (evL v ks).getD (2 - (evR v (ks.getD 0 default)).n).toNat default)=(noVal,false) from by
   rw [if_pos h];rfl]
  refine⟨?_,?_⟩<;>(conv=>whnf)
  ·repeat' (first|exact PSub.rfl|exact PSub.nil_ro _ _|exact PSub.lit_sb rfl|exact trivial|exact Z085|refine PSub.agg ?_|refine PSub.ro rfl ?_|refine Z084 ?_ ?_|refine And.intro ?_ ?_)
  ·repeat' (first|exact PSub.rfl|exact PSub.nil_ro _ _|exact PSub.lit_sb rfl|exact trivial|exact Z085|refine PSub.agg ?_|refine PSub.ro rfl ?_|refine Z084 ?_ ?_|refine And.intro ?_ ?_)
 ·rename_i h1 h2
  have hf:=fnd_ok h1
  rw [hf.1] at h h2
  rw [show(if (evR v (ks.getD 0 default)).kind≠1 then noVal else (evL v ks).getD (2 - (evR v (ks.getD 0 default)).n).toNat default)=evR v (ks.getD 1 default) from by
   rw [if_neg (fun x=>x h2),h];exact g 1 (by omega)]
  refine⟨?_,?_⟩<;>(conv=>whnf)
  ·repeat' (first|exact PSub.rfl|exact PSub.nil_ro _ _|exact PSub.lit_sb rfl|exact trivial|exact Z085|refine PSub.agg ?_|refine PSub.ro rfl ?_|refine Z084 ?_ ?_|refine And.intro ?_ ?_)
  ·repeat' (first|exact PSub.rfl|exact PSub.nil_ro _ _|exact PSub.lit_sb rfl|exact trivial|exact Z085|refine PSub.agg ?_|refine PSub.ro rfl ?_|refine Z084 ?_ ?_|refine And.intro ?_ ?_)
 ·rename_i h1 h2
  have hf:=fnd_ok h1
  rw [hf.1] at h h2
  have hz:(evR v (ks.getD 0 default)).n=0:=by
   rcases Z0yk hb h2 with e|e
   ·rw [e] at h;exact absurd rfl h
   ·rw [e];rfl
  rw [show(if (evR v (ks.getD 0 default)).kind≠1 then noVal else (evL v ks).getD (2 - (evR v (ks.getD 0 default)).n).toNat default)=evR v (ks.getD 2 default) from by
   rw [if_neg (fun x=>x h2),hz];exact g 2 (by omega)]
  refine⟨?_,?_⟩<;>(conv=>whnf)
  ·repeat' (first|exact PSub.rfl|exact PSub.nil_ro _ _|exact PSub.lit_sb rfl|exact trivial|exact Z085|refine PSub.agg ?_|refine PSub.ro rfl ?_|refine Z084 ?_ ?_|refine And.intro ?_ ?_)
  ·repeat' (first|exact PSub.rfl|exact PSub.nil_ro _ _|exact PSub.lit_sb rfl|exact trivial|exact Z085|refine PSub.agg ?_|refine PSub.ro rfl ?_|refine Z084 ?_ ?_|refine And.intro ?_ ?_)
set_option maxHeartbeats 4000000 in
theorem Z00z (v:Vw) (e:Ex) (hv:smallV2 v) (he:okN e):AC Tryz.prog 98 [.pv (.agg (cVw v)),.pv (.agg (cEx e))] [] (.pv (.tup [.agg (cVal (fndV (evR v e)).1),vbool (fndV (evR v e)).2])) []:=by
 have hlen:=Z0lz ((Z0mg e).1 he).1
 have ih:∀ k,k < e.kids.length→AC Tryz.prog 98 [.pv (.agg (cVw v)),.pv (.agg (cEx (e.kids.getD k default)))] [] (.pv (.tup [.agg (cVal (fndV (evR v (e.kids.getD k default))).1),vbool (fndV (evR v (e.kids.getD k default))).2])) []:=fun k hk=>
  have:=Ex.kid_lt (Ex.kid_at hk)
  Z00z v (e.kids.getD k default) hv ((Z0mf _).1 ((Z0mg e).1 he).2 _ (Ex.kid_at hk))
 have hok:∀ k,k < e.kids.length→okN (e.kids.getD k default):=fun k hk=>(Z0mf _).1 ((Z0mg e).1 he).2 _ (Ex.kid_at hk)
 have hokk:∀ k,k < e.kids.length→valE (evR v (e.kids.getD k default))=0:=fun k hk=>evR_ok v (hok k hk)
 have g:∀ i,i < e.kids.length→(evL v e.kids).getD i default=evR v (e.kids.getD i default):=fun i hi=>Z0d1 v e.kids i hi
 have hrg:=Z0pb he
 have hkl:=Z0jk he
 have hki:=Z0mi he
 have hw:=Z0z1 v.minute
 have hlit:=fun hk:e.kind=1=>Z0m1 ((Z0mg e).1 he).1 hk
 have hj7:=Z011 v e.kids false hv (Nat.le_trans hlen (by decide)) hok ih
 have hj8:=Z011 v e.kids true hv (Nat.le_trans hlen (by decide)) hok ih
 have hch:=fun h3=>Z00x v e.kids h3 hok ih
 rw [evR_eq]
 refine AC.ex2 ?_
 refine AC.of_awp (T:=T) T_ok hm Tryz.call98 Tryz.func98 rfl rfl rfl ?_
 conv=>whnf
 repeat (any_goals (first
  |(refine⟨fun(h:(_:Bool)=true)=>?_,fun(h:(_:Bool)=false)=>?_⟩<;>(try simp only [Q0,Q1,Q2,Q3,Q4,Q5,Q6,Q7,Q8,reduceCtorEq] at h)<;>(conv=>whnf))
  |(refine And.intro (by(try simp only [Int.toNat_natCast]);omega) ?_;conv=>whnf)
  |(refine And.intro (show(_:Bool)=true from by kernel_rfl) ?_;conv=>whnf)))
 all_goals (try contradiction)
 all_goals (try (exfalso;omega))
 ·rw [show fndV (nodV v e.kind e.n e.m e.name e.value e.key (evL v e.kids))=(e.value,true) from by
   unfold nodV
   rw [if_pos h]
   exact Z0ey (hlit h).2]
  refine⟨?_,?_⟩<;>(conv=>whnf)
  ·repeat' (first|exact PSub.rfl|exact PSub.nil_ro _ _|exact PSub.lit_sb rfl|exact trivial|exact Z085|refine PSub.agg ?_|refine PSub.ro rfl ?_|refine Z084 ?_ ?_|refine And.intro ?_ ?_)
  ·repeat' (first|exact PSub.rfl|exact PSub.nil_ro _ _|exact PSub.lit_sb rfl|exact trivial|exact Z085|refine PSub.agg ?_|refine PSub.ro rfl ?_|refine Z084 ?_ ?_|refine And.intro ?_ ?_)
 ·repeat (any_goals (first
   |(refine .inl ⟨_,Z00w v e.key hv,?_⟩;conv=>whnf)))
  rw [show nodV v e.kind e.n e.m e.name e.value e.key (evL v e.kids)=atV v.items e.key from by
   unfold nodV
   rw [if_neg (by omega),if_pos h]]
  refine⟨?_,?_⟩<;>(conv=>whnf)
  ·repeat' (first|exact PSub.rfl|exact PSub.nil_ro _ _|exact PSub.lit_sb rfl|exact trivial|exact Z085|refine PSub.agg ?_|refine PSub.ro rfl ?_|refine Z084 ?_ ?_|refine And.intro ?_ ?_)
  ·repeat' (first|exact PSub.rfl|exact PSub.nil_ro _ _|exact PSub.lit_sb rfl|exact trivial|exact Z085|refine PSub.agg ?_|refine PSub.ro rfl ?_|refine Z084 ?_ ?_|refine And.intro ?_ ?_)
 ·repeat (any_goals (first
   |(refine .inl ⟨_,Z014 _,?_⟩;conv=>whnf)))
  rw [show fndV (nodV v e.kind e.n e.m e.name e.value e.key (evL v e.kids))=(truV (decide (v.mode=e.name)),true) from by
   unfold nodV
   rw [if_neg (by omega),if_neg (by omega),if_pos h]
   exact Z0ex _]
  refine⟨?_,?_⟩<;>(conv=>whnf)
  ·repeat' (first|exact PSub.rfl|exact PSub.nil_ro _ _|exact PSub.lit_sb rfl|exact trivial|exact Z085|refine PSub.agg ?_|refine PSub.ro rfl ?_|refine Z084 ?_ ?_|refine And.intro ?_ ?_)
  ·repeat' (first|exact PSub.rfl|exact PSub.nil_ro _ _|exact PSub.lit_sb rfl|exact trivial|exact Z085|refine PSub.agg ?_|refine PSub.ro rfl ?_|refine Z084 ?_ ?_|refine And.intro ?_ ?_)
 ·repeat (any_goals (first
   |(refine .inl ⟨_,Z015,?_⟩;conv=>whnf)))
  rw [show fndV (nodV v e.kind e.n e.m e.name e.value e.key (evL v e.kids))=(noVal,false) from by
   unfold nodV
   rw [if_neg (by omega),if_neg (by omega),if_neg (by omega),if_pos (by omega),if_pos (by omega)]
   rfl]
  refine⟨?_,?_⟩<;>(conv=>whnf)
  ·repeat' (first|exact PSub.rfl|exact PSub.nil_ro _ _|exact PSub.lit_sb rfl|exact trivial|exact Z085|refine PSub.agg ?_|refine PSub.ro rfl ?_|refine Z084 ?_ ?_|refine And.intro ?_ ?_)
  ·repeat' (first|exact PSub.rfl|exact PSub.nil_ro _ _|exact PSub.lit_sb rfl|exact trivial|exact Z085|refine PSub.agg ?_|refine PSub.ro rfl ?_|refine Z084 ?_ ?_|refine And.intro ?_ ?_)
 ·repeat (any_goals (first
   |(refine .inl ⟨_,Z000 v.minute,?_⟩;conv=>whnf)
   |(refine .inl ⟨_,Z00y (ofDay v.minute) e.n e.m,?_⟩;conv=>whnf)
   |(refine .inl ⟨_,Z014 _,?_⟩;conv=>whnf)
   |(refine And.intro (show(_:Bool)=true from by kernel_rfl) ?_;conv=>whnf)))
  rw [show fndV (nodV v e.kind e.n e.m e.name e.value e.key (evL v e.kids))=(truV (within (ofDay v.minute) e.n e.m),true) from by
   unfold nodV
   rw [if_neg (by omega),if_neg (by omega),if_neg (by omega),if_pos (by omega),if_neg (by omega),if_pos (by omega)]
   exact Z0ex _]
  refine⟨?_,?_⟩<;>(conv=>whnf)
  ·repeat' (first|exact PSub.rfl|exact PSub.nil_ro _ _|exact PSub.lit_sb rfl|exact trivial|exact Z085|refine PSub.agg ?_|refine PSub.ro rfl ?_|refine Z084 ?_ ?_|refine And.intro ?_ ?_)
  ·repeat' (first|exact PSub.rfl|exact PSub.nil_ro _ _|exact PSub.lit_sb rfl|exact trivial|exact Z085|refine PSub.agg ?_|refine PSub.ro rfl ?_|refine Z084 ?_ ?_|refine And.intro ?_ ?_)
 ·repeat (any_goals (first
   |(refine .inl ⟨_,Z015,?_⟩;conv=>whnf)))
  rw [show fndV (nodV v e.kind e.n e.m e.name e.value e.key (evL v e.kids))=(noVal,false) from by
   unfold nodV
   rw [if_neg (by omega),if_neg (by omega),if_neg (by omega),if_pos (by omega),if_pos (by omega)]
   rfl]
  refine⟨?_,?_⟩<;>(conv=>whnf)
  ·repeat' (first|exact PSub.rfl|exact PSub.nil_ro _ _|exact PSub.lit_sb rfl|exact trivial|exact Z085|refine PSub.agg ?_|refine PSub.ro rfl ?_|refine Z084 ?_ ?_|refine And.intro ?_ ?_)
  ·repeat' (first|exact PSub.rfl|exact PSub.nil_ro _ _|exact PSub.lit_sb rfl|exact trivial|exact Z085|refine PSub.agg ?_|refine PSub.ro rfl ?_|refine Z084 ?_ ?_|refine And.intro ?_ ?_)
 ·repeat (any_goals (first
   |(refine .inl ⟨_,Z001 v.minute,?_⟩;conv=>whnf)
   |(refine .inl ⟨_,Z014 _,?_⟩;conv=>whnf)
   |(refine And.intro (by(try simp only [Int.toNat_natCast]);omega) ?_;conv=>whnf)
   |(refine And.intro (show(_:Bool)=true from by kernel_rfl) ?_;conv=>whnf)))
  rw [show abits .and .i64 (e.n.fdiv (2 ^ min (weekday v.minute).toNat IntKind.i64.bits)) 1=(e.n.fdiv (2 ^ min (weekday v.minute).toNat 64)).tmod 2 from Z088 (day_in (hrg.2 (by omega)))]
  rw [show fndV (nodV v e.kind e.n e.m e.name e.value e.key (evL v e.kids))=(truV (dayB e.n (weekday v.minute)),true) from by
   unfold nodV
   rw [if_neg (by omega),if_neg (by omega),if_neg (by omega),if_pos (by omega),if_neg (by omega),if_neg (by omega)]
   exact Z0ex _]
  refine⟨?_,?_⟩<;>(conv=>whnf)
  ·repeat' (first|exact PSub.rfl|exact PSub.nil_ro _ _|exact PSub.lit_sb rfl|exact trivial|exact Z085|refine PSub.agg ?_|refine PSub.ro rfl ?_|refine Z084 ?_ ?_|refine And.intro ?_ ?_)
  ·repeat' (first|exact PSub.rfl|exact PSub.nil_ro _ _|exact PSub.lit_sb rfl|exact trivial|exact Z085|refine PSub.agg ?_|refine PSub.ro rfl ?_|refine Z084 ?_ ?_|refine And.intro ?_ ?_)
 ·repeat (any_goals (first
   |(refine .inl ⟨_,Z010 v.members e.n hv.2,?_⟩;conv=>whnf)
   |(refine .inl ⟨_,Z014 _,?_⟩;conv=>whnf)))
  rw [show fndV (nodV v e.kind e.n e.m e.name e.value e.key (evL v e.kids))=(truV (homeB v.members e.n),true) from by
   unfold nodV
   rw [if_neg (by omega),if_neg (by omega),if_neg (by omega),if_neg (by omega),if_pos (by omega)]
   exact Z0ex _]
  refine⟨?_,?_⟩<;>(conv=>whnf)
  ·repeat' (first|exact PSub.rfl|exact PSub.nil_ro _ _|exact PSub.lit_sb rfl|exact trivial|exact Z085|refine PSub.agg ?_|refine PSub.ro rfl ?_|refine Z084 ?_ ?_|refine And.intro ?_ ?_)
  ·repeat' (first|exact PSub.rfl|exact PSub.nil_ro _ _|exact PSub.lit_sb rfl|exact trivial|exact Z085|refine PSub.agg ?_|refine PSub.ro rfl ?_|refine Z084 ?_ ?_|refine And.intro ?_ ?_)
 ·have h1:=hkl.1 h
  rw [show nodV v e.kind e.n e.m e.name e.value e.key (evL v e.kids)=if (evR v (e.kids.getD 0 default)).kind≠1 then noVal else truV (decide ((evR v (e.kids.getD 0 default)).n=0)) from by
   unfold nodV
   rw [if_neg (by omega),if_neg (by omega),if_neg (by omega),if_neg (by omega),if_neg (by omega),if_pos h,g 0 (by omega)]]
  repeat (any_goals (first
   |(refine⟨fun(h:(_:Bool)=true)=>?_,fun(h:(_:Bool)=false)=>?_⟩<;>(try simp only [Q0,Q1,Q2,Q3,Q4,Q5,Q6,Q7,Q8,reduceCtorEq] at h)<;>(conv=>whnf))
   |(refine .inl ⟨_,ih 0 (by omega),?_⟩;conv=>whnf)
   |(refine .inl ⟨_,Z015,?_⟩;conv=>whnf)
   |(refine .inl ⟨_,Z014 _,?_⟩;conv=>whnf)
   |(refine And.intro (show(_:Bool)=true from by kernel_rfl) ?_;conv=>whnf)))
  ·rw [if_pos (by have:=fnd_un h;omega),show fndV noVal=(noVal,false) from rfl]
   refine⟨?_,?_⟩<;>(conv=>whnf)
   ·repeat' (first|exact PSub.rfl|exact PSub.nil_ro _ _|exact PSub.lit_sb rfl|exact trivial|exact Z085|refine PSub.agg ?_|refine PSub.ro rfl ?_|refine Z084 ?_ ?_|refine And.intro ?_ ?_)
   ·repeat' (first|exact PSub.rfl|exact PSub.nil_ro _ _|exact PSub.lit_sb rfl|exact trivial|exact Z085|refine PSub.agg ?_|refine PSub.ro rfl ?_|refine Z084 ?_ ?_|refine And.intro ?_ ?_)
  ·rename_i h2
   have hf:=fnd_ok h2
   rw [hf.1] at h
   rw [if_pos h,show fndV noVal=(noVal,false) from rfl]
   refine⟨?_,?_⟩<;>(conv=>whnf)
   ·repeat' (first|exact PSub.rfl|exact PSub.nil_ro _ _|exact PSub.lit_sb rfl|exact trivial|exact Z085|refine PSub.agg ?_|refine PSub.ro rfl ?_|refine Z084 ?_ ?_|refine And.intro ?_ ?_)
   ·repeat' (first|exact PSub.rfl|exact PSub.nil_ro _ _|exact PSub.lit_sb rfl|exact trivial|exact Z085|refine PSub.agg ?_|refine PSub.ro rfl ?_|refine Z084 ?_ ?_|refine And.intro ?_ ?_)
  ·rename_i h2
   have hf:=fnd_ok h2
   rw [hf.1] at h ⊢
   rw [if_neg (fun x=>x h),Z0ex]
   refine⟨?_,?_⟩<;>(conv=>whnf)
   ·repeat' (first|exact PSub.rfl|exact PSub.nil_ro _ _|exact PSub.lit_sb rfl|exact trivial|exact Z085|refine PSub.agg ?_|refine PSub.ro rfl ?_|refine Z084 ?_ ?_|refine And.intro ?_ ?_)
   ·repeat' (first|exact PSub.rfl|exact PSub.nil_ro _ _|exact PSub.lit_sb rfl|exact trivial|exact Z085|refine PSub.agg ?_|refine PSub.ro rfl ?_|refine Z084 ?_ ?_|refine And.intro ?_ ?_)
 ·repeat (any_goals (first
   |(refine .inl ⟨_,hj7,?_⟩;conv=>whnf)))
  rw [show nodV v e.kind e.n e.m e.name e.value e.key (evL v e.kids)=chainV (evL v e.kids) false from by
   unfold nodV
   rw [if_neg (by omega),if_neg (by omega),if_neg (by omega),if_neg (by omega),if_neg (by omega),if_neg (by omega),if_pos (by omega)]]
  refine⟨?_,?_⟩<;>(conv=>whnf)
  ·repeat' (first|exact PSub.rfl|exact PSub.nil_ro _ _|exact PSub.lit_sb rfl|exact trivial|exact Z085|refine PSub.agg ?_|refine PSub.ro rfl ?_|refine Z084 ?_ ?_|refine And.intro ?_ ?_)
  ·repeat' (first|exact PSub.rfl|exact PSub.nil_ro _ _|exact PSub.lit_sb rfl|exact trivial|exact Z085|refine PSub.agg ?_|refine PSub.ro rfl ?_|refine Z084 ?_ ?_|refine And.intro ?_ ?_)
 ·repeat (any_goals (first
   |(refine .inl ⟨_,hj8,?_⟩;conv=>whnf)))
  rw [show nodV v e.kind e.n e.m e.name e.value e.key (evL v e.kids)=chainV (evL v e.kids) true from by
   unfold nodV
   rw [if_neg (by omega),if_neg (by omega),if_neg (by omega),if_neg (by omega),if_neg (by omega),if_neg (by omega),if_neg (by omega),if_pos (by omega)]]
  refine⟨?_,?_⟩<;>(conv=>whnf)
  ·repeat' (first|exact PSub.rfl|exact PSub.nil_ro _ _|exact PSub.lit_sb rfl|exact trivial|exact Z085|refine PSub.agg ?_|refine PSub.ro rfl ?_|refine Z084 ?_ ?_|refine And.intro ?_ ?_)
  ·repeat' (first|exact PSub.rfl|exact PSub.nil_ro _ _|exact PSub.lit_sb rfl|exact trivial|exact Z085|refine PSub.agg ?_|refine PSub.ro rfl ?_|refine Z084 ?_ ?_|refine And.intro ?_ ?_)
 ·repeat (any_goals (first
   |(refine .inl ⟨_,hch (hkl.2.2 h),?_⟩;conv=>whnf)))
  rw [show nodV v e.kind e.n e.m e.name e.value e.key (evL v e.kids)=iteV (evL v e.kids) from by
   unfold nodV
   rw [if_neg (by omega),if_neg (by omega),if_neg (by omega),if_neg (by omega),if_neg (by omega),if_neg (by omega),if_neg (by omega),if_neg (by omega),if_neg (by omega),if_pos (by omega)];rfl]
  refine⟨?_,?_⟩<;>(conv=>whnf)
  ·repeat' (first|exact PSub.rfl|exact PSub.nil_ro _ _|exact PSub.lit_sb rfl|exact trivial|exact Z085|refine PSub.agg ?_|refine PSub.ro rfl ?_|refine Z084 ?_ ?_|refine And.intro ?_ ?_)
  ·repeat' (first|exact PSub.rfl|exact PSub.nil_ro _ _|exact PSub.lit_sb rfl|exact trivial|exact Z085|refine PSub.agg ?_|refine PSub.ro rfl ?_|refine Z084 ?_ ?_|refine And.intro ?_ ?_)
 ·have h2:=hkl.2.1 (by omega)
  rw [show nodV v e.kind e.n e.m e.name e.value e.key (evL v e.kids)=if (evR v (e.kids.getD 0 default)).kind=0∨(evR v (e.kids.getD 1 default)).kind=0 then noVal
    else if e.kind=9 then truV (decide (evR v (e.kids.getD 0 default)=evR v (e.kids.getD 1 default))) else intV e.kind (evR v (e.kids.getD 0 default)) (evR v (e.kids.getD 1 default)) from by
   unfold nodV
   rw [if_neg (by omega),if_neg (by omega),if_neg (by omega),if_neg (by omega),if_neg (by omega),if_neg (by omega),if_neg (by omega),if_neg (by omega),g 0 (by omega),g 1 (by omega)]
   by_cases h9:e.kind=9
   ·rw [if_pos h9,if_pos h9]
   ·rw [if_neg h9,if_neg (by omega),if_neg h9]
    by_cases h0:(evR v (e.kids.getD 0 default)).kind=0∨(evR v (e.kids.getD 1 default)).kind=0
    ·rw [if_pos h0];unfold intV;rw [if_pos (by omega)]
    ·rw [if_neg h0]]
  repeat (any_goals (first
   |(refine⟨fun(h:(_:Bool)=true)=>?_,fun(h:(_:Bool)=false)=>?_⟩<;>(try simp only [Q0,Q1,Q2,Q3,Q4,Q5,Q6,Q7,Q8,reduceCtorEq] at h)<;>(conv=>whnf))
   |(refine .inl ⟨_,ih 0 (by omega),?_⟩;conv=>whnf)
   |(refine .inl ⟨_,ih 1 (by omega),?_⟩;conv=>whnf)
   |(refine .inl ⟨_,Z015,?_⟩;conv=>whnf)
   |(refine And.intro (by(try simp only [Int.toNat_natCast]);omega) ?_;conv=>whnf)
   |(refine And.intro (show(_:Bool)=true from by kernel_rfl) ?_;conv=>whnf)))
  ·rw [if_pos (.inl (fnd_un h)),show fndV noVal=(noVal,false) from rfl]
   refine⟨?_,?_⟩<;>(conv=>whnf)
   ·repeat' (first|exact PSub.rfl|exact PSub.nil_ro _ _|exact PSub.lit_sb rfl|exact trivial|exact Z085|refine PSub.agg ?_|refine PSub.ro rfl ?_|refine Z084 ?_ ?_|refine And.intro ?_ ?_)
   ·repeat' (first|exact PSub.rfl|exact PSub.nil_ro _ _|exact PSub.lit_sb rfl|exact trivial|exact Z085|refine PSub.agg ?_|refine PSub.ro rfl ?_|refine Z084 ?_ ?_|refine And.intro ?_ ?_)
  ·rw [if_pos (.inr (fnd_un h)),show fndV noVal=(noVal,false) from rfl]
   refine⟨?_,?_⟩<;>(conv=>whnf)
   ·repeat' (first|exact PSub.rfl|exact PSub.nil_ro _ _|exact PSub.lit_sb rfl|exact trivial|exact Z085|refine PSub.agg ?_|refine PSub.ro rfl ?_|refine Z084 ?_ ?_|refine And.intro ?_ ?_)
   ·repeat' (first|exact PSub.rfl|exact PSub.nil_ro _ _|exact PSub.lit_sb rfl|exact trivial|exact Z085|refine PSub.agg ?_|refine PSub.ro rfl ?_|refine Z084 ?_ ?_|refine And.intro ?_ ?_)
  ·rename_i h1
   have f0:=fnd_ok h1
   have f1:=fnd_ok h
   rw [f0.1,f1.1]
   rw [if_neg (fun x=>x.elim f0.2 f1.2)]
   repeat (any_goals (first
    |(refine .inl ⟨_,Z013 e.kind (evR v (e.kids.getD 0 default)) (evR v (e.kids.getD 1 default)) (hokk 0 (by omega)) (hokk 1 (by omega)),?_⟩;conv=>whnf)))
   refine⟨?_,?_⟩<;>(conv=>whnf)
   ·repeat' (first|exact PSub.rfl|exact PSub.nil_ro _ _|exact PSub.lit_sb rfl|exact trivial|exact Z085|refine PSub.agg ?_|refine PSub.ro rfl ?_|refine Z084 ?_ ?_|refine And.intro ?_ ?_)
   ·repeat' (first|exact PSub.rfl|exact PSub.nil_ro _ _|exact PSub.lit_sb rfl|exact trivial|exact Z085|refine PSub.agg ?_|refine PSub.ro rfl ?_|refine Z084 ?_ ?_|refine And.intro ?_ ?_)
termination_by SizeOf.sizeOf e
theorem Z00u (v:Vw) (e:Ex) (hv:smallV2 v):AC Tryz.prog 54 [.pv (.agg (cVw v)),.pv (.agg (cEx e))] [] (.pv (.tup [.agg (cVal (evlE v e).1),vbool (evlE v e).2])) []:=by
 have hok:exE e=0→okN e:=fun h=>((Z0dd e).1 h).1
 refine AC.of_awp (T:=T) T_ok hm Tryz.call54 Tryz.func54 rfl rfl rfl ?_
 conv=>whnf
 repeat (any_goals (first
  |(refine⟨fun(h:(_:Bool)=true)=>?_,fun(h:(_:Bool)=false)=>?_⟩<;>(try simp only [Q0,Q1,Q2,Q3,Q4,Q5,Q6,Q7,Q8,reduceCtorEq] at h)<;>(conv=>whnf))
  |(refine .inl ⟨_,Z016 e,?_⟩;conv=>whnf)
  |(refine .inl ⟨_,Z015,?_⟩;conv=>whnf)
  |(refine .inl ⟨_,Z00z v e hv (hok (by assumption)),?_⟩;conv=>whnf)))
 ·rw [show evlE v e=(noVal,false) from if_pos h]
  refine⟨?_,?_⟩<;>(conv=>whnf)
  ·repeat' (first|exact PSub.rfl|exact PSub.nil_ro _ _|exact PSub.lit_sb rfl|exact trivial|exact Z085|refine PSub.agg ?_|refine PSub.ro rfl ?_|refine Z084 ?_ ?_|refine And.intro ?_ ?_)
  ·repeat' (first|exact PSub.rfl|exact PSub.nil_ro _ _|exact PSub.lit_sb rfl|exact trivial|exact Z085|refine PSub.agg ?_|refine PSub.ro rfl ?_|refine Z084 ?_ ?_|refine And.intro ?_ ?_)
 ·rw [show evlE v e=fndV (evR v e) from if_neg (fun x=>x h)]
  refine⟨?_,?_⟩<;>(conv=>whnf)
  ·repeat' (first|exact PSub.rfl|exact PSub.nil_ro _ _|exact PSub.lit_sb rfl|exact trivial|exact Z085|refine PSub.agg ?_|refine PSub.ro rfl ?_|refine Z084 ?_ ?_|refine And.intro ?_ ?_)
  ·repeat' (first|exact PSub.rfl|exact PSub.nil_ro _ _|exact PSub.lit_sb rfl|exact trivial|exact Z085|refine PSub.agg ?_|refine PSub.ro rfl ?_|refine Z084 ?_ ?_|refine And.intro ?_ ?_)
end Go.Abs
namespace Go.Abs
open Go.Proofs
set_option maxRecDepth 10000
theorem Z0qt {G:Nat→ByteArray} {i:Nat} {x:ByteArray} {n:Nat}:∀ j,j < n→PSubs (updAt (fun j=>cstr (G j)) i 0 (cstr x) j) (cstr (if j=i then x else G j)):=by
 intro j _
 by_cases e:j=i
 ·subst e;rw [Z0yg,if_pos rfl];exact PSubs.rfl
 ·rw [Z0yf e,if_neg e];exact PSubs.rfl
theorem Z05u (l:List ByteArray) (hl:l.length≤8388608):AC Tryz.prog 59 [.own 0] [(0,rowL 1 cstr l)] (.own 1) [(1,rowL 1 cstr (compToS l l.length)),(0,.gone)]:=by
 refine AC.of_awp_move (T:=T) T_ok hm Tryz.call59 Tryz.func59 rfl rfl rfl rfl ?_
 conv=>whnf
 refine⟨fun h=>?_,fun h=>?_⟩<;>(try simp only [Q0,Q1,Q2,Q3,Q4,Q5,Q6,Q7,Q8,reduceCtorEq] at h)<;>(conv=>whnf)
 ·have e:compToS l l.length=l:=by
   rw [Z0bs (Nat.le_refl _) (fun j h1 h2=>by omega),List.take_length]
  rw [e]
  exact⟨rfl,fun i hi=>PSubs.rfl⟩
 refine loop_k (ι:=Nat) [0] [] (fun k=>1≤k∧k≤l.length∧∀ j,1≤j→j < k→l.getD j default≠l.getD (j - 1) default) (fun k=>l.length - k) 1 (fun k=>[(3,.pv (vint k))]) (fun _=>[(0,rowL 1 cstr l)]) [] ⟨Nat.le_refl _,by omega,fun j h1 h2=>by omega⟩ ?_ (fun k hk=>?_)
 ·(repeat' (first|exact PSub.rfl|exact rfl|exact PSubs.rfl|exact trivial|exact PSub.lit_sb rfl|refine And.intro ?_ ?_))
  intro i hi;exact PSubs.rfl
 obtain⟨h1,h2,hinv⟩:=hk
 conv=>whnf
 have hk0:compToS l k=l.take k:=Z0bs h2 hinv
 repeat (any_goals (first
  |(refine⟨fun(h:(_:Bool)=true)=>?_,fun(h:(_:Bool)=false)=>?_⟩<;>(try simp only [Q0,Q1,Q2,Q3,Q4,Q5,Q6,Q7,Q8,reduceCtorEq] at h)<;>(conv=>whnf))
  |(refine And.intro (by(try simp only [Int.toNat_natCast]);omega) ?_;conv=>whnf)
  |(refine And.intro (show(_:Bool)=true from by kernel_rfl) ?_;conv=>whnf)
  |(refine .inl ⟨wrap64 (by omega),?_⟩;conv=>whnf)))
 ·rename_i hlt
  try simp only [decide_eq_true_eq,Int.toNat_natCast] at h
  have hkm:((k:Int) - 1).toNat=k - 1:=by omega
  rw [hkm] at h
  have hk1:compToS l (k+1)=l.take k:=by
   rw [compToS,if_neg (not_or.2 ⟨by omega,fun hn=>hn h⟩),hk0]
  refine loop_k (ι:=Nat × (Nat→ByteArray)) [0,4] [] (fun x=>1≤x.1∧x.1≤l.length - k∧(compToS l (k+x.1)).length≤k+x.1 - 1∧(∀ j,j < (compToS l (k+x.1)).length→x.2 j=(compToS l (k+x.1)).getD j default)∧∀ j,k+x.1 - 1≤j→j < l.length→x.2 j=l.getD j default)
   (fun x=>l.length - k - x.1) (1,fun j=>l.getD j default) (fun x=>[(3,.pv (vint (compToS l (k+x.1)).length)),(5,.pv (vint x.1))]) (fun x=>[(0,.row 1 l.length fun i=>cstr (x.2 i))]) [] ⟨Nat.le_refl _,by simp only;omega,?_,?_,fun j _ _=>rfl⟩ ?_ (fun x hx=>?_)
  ·simp only [hk1,List.length_take];omega
  ·intro j hj
   simp only [hk1,List.length_take] at hj ⊢
   simp [List.getD,List.getElem?_take,show j < k from by omega]
  ·(repeat' (first|exact PSub.rfl|exact rfl|exact PSubs.rfl|exact trivial|exact PSub.lit_sb rfl|refine And.intro ?_ ?_))
   ·intro i hi;exact PSubs.rfl
   ·refine PSub.int ?_
    simp only [hk1,List.length_take];omega
  obtain⟨k2,G⟩:=x
  obtain⟨j1,j2,hC,hG,hL⟩:=hx
  simp only at j1 j2 hC hG hL
  have hCs:compToS l (k+(k2+1))=if l.getD (k+k2) default≠l.getD (k+k2 - 1) default then compToS l (k+k2) ++ [l.getD (k+k2) default] else compToS l (k+k2):=by
   rw [show k+(k2+1)=k+k2+1 from rfl,compToS]
   by_cases e:l.getD (k+k2) default≠l.getD (k+k2 - 1) default
   ·rw [if_pos (.inr e),if_pos e]
   ·rw [if_neg (not_or.2 ⟨by omega,e⟩),if_neg e]
  have e2:(((k2:Nat):Int) - 1).toNat=k2 - 1:=by omega
  dsimp only
  conv=>whnf
  repeat (any_goals (first
   |(refine⟨fun(h:(_:Bool)=true)=>?_,fun(h:(_:Bool)=false)=>?_⟩<;>(try simp only [Q0,Q1,Q2,Q3,Q4,Q5,Q6,Q7,Q8,reduceCtorEq] at h)<;>(conv=>whnf))
   |(refine And.intro (by(try simp only [Int.toNat_natCast]);omega) ?_;conv=>whnf)
   |(refine And.intro (show(_:Bool)=true from by kernel_rfl) ?_;conv=>whnf)
   |(refine .inl ⟨wrap64 (by omega),?_⟩;conv=>whnf)))
  ·rw [e2] at h
   try simp only [decide_eq_false_iff_not] at h
   rw [hL _ (by omega) (by omega),hL _ (by omega) (by omega),show k+(k2 - 1)=k+k2 - 1 from by omega] at h
   rw [if_pos h] at hCs
   refine⟨(k2+1,fun j=>if j=(compToS l (k+k2)).length then l.getD (k+k2) default else G j),[],⟨?_,?_,?_,?_,?_⟩,by dsimp only;omega,?_⟩
   ·dsimp only;omega
   ·dsimp only;omega
   ·simp only [hCs,List.length_append,List.length_singleton];omega
   ·intro j hj
    simp only [hCs,List.length_append,List.length_singleton] at hj ⊢
    by_cases e:j=(compToS l (k+k2)).length
    ·subst e;simp [List.getD]
    ·rw [if_neg e,hG j (by omega)];simp [List.getD,List.getElem?_append_left (show j < (compToS l (k+k2)).length from by omega)]
   ·intro j h3 h4
    dsimp only at h3 ⊢
    rw [if_neg (by omega)]
    exact hL j (by omega) h4
   dsimp only
   rw [hCs]
   (repeat' (first|exact PSub.rfl|exact rfl|exact PSubs.rfl|exact trivial|exact PSub.lit_sb rfl|refine And.intro ?_ ?_))
   ·intro j hj
    have:=Z0qt (G:=G) (i:=(compToS l (k+k2)).length) (x:=l.getD (k+k2) default) j hj
    rw [←hL (k+k2) (by omega) (by omega)] at this ⊢
    exact this
   ·refine PSub.int ?_;simp
  ·rw [e2] at h
   try simp only [decide_eq_true_eq] at h
   rw [hL _ (by omega) (by omega),hL _ (by omega) (by omega),show k+(k2 - 1)=k+k2 - 1 from by omega] at h
   rw [if_neg (fun hn=>hn h)] at hCs
   refine⟨(k2+1,G),[],⟨?_,?_,?_,?_,?_⟩,by dsimp only;omega,?_⟩
   ·dsimp only;omega
   ·dsimp only;omega
   ·simp only [hCs];omega
   ·intro j hj
    simp only [hCs] at hj ⊢
    exact hG j hj
   ·intro j h3 h4
    dsimp only at h3 ⊢
    exact hL j (by omega) h4
   dsimp only
   rw [hCs]
   (repeat' (first|exact PSub.rfl|exact rfl|exact PSubs.rfl|exact trivial|exact PSub.lit_sb rfl|refine And.intro ?_ ?_))
   intro i hi;exact PSubs.rfl
  ·have e3:k+k2=l.length:=by omega
   rw [e3] at hG hC ⊢
   refine⟨by simp,fun j hj=>?_⟩
   rw [Z0dn,if_neg (by simp;omega)]
   simp only [hG j hj]
   exact PSubs.rfl
 ·refine⟨k+1,[],⟨by omega,by omega,fun j h3 h4=>?_⟩,by omega,?_⟩
  ·by_cases e:j=k
   ·subst e
    try simp only [decide_eq_false_iff_not,Int.toNat_natCast] at h
    rw [show((j:Int) - 1).toNat=j - 1 from by omega] at h
    exact h
   ·exact hinv j h3 (by omega)
  ·(repeat' (first|exact PSub.rfl|exact rfl|exact PSubs.rfl|exact trivial|exact PSub.lit_sb rfl|refine And.intro ?_ ?_))
   intro i hi;exact PSubs.rfl
 ·have e:k=l.length:=by omega
  subst e
  rw [hk0,List.take_length]
  exact⟨rfl,fun i hi=>PSubs.rfl⟩
end Go.Abs
namespace Go.Abs
open Go.Proofs
set_option maxRecDepth 10000
set_option maxHeartbeats 1000000 in
theorem Z06f (l:List Write) (a m b:Nat) (isB:Bool) (D:List PV→Prop) (gb:List PV→Bool) (gi:List PV→Int) (hl:l.length≤1048576) (ham:a < m) (hmb:m < b) (hb:b≤l.length) :
  AC Tryz.prog 156 [.own 900000,.pv (vint a),.pv (vint m),.pv (vint b),.clo D isB gb gi] [(900000,rowL 10 cWrite l)] (.pv (.tup [])) [(900000,rowL 10 cWrite (rot l a m b))]:=by
 refine AC.of_awp_gen (T:=T) T_ok hm Tryz.call156 Tryz.func156 rfl rfl rfl rfl rfl rfl ?_
 conv=>whnf
 repeat (any_goals (first
  |(refine .inl ⟨wrap64 (by omega),?_⟩;conv=>whnf)))
 refine loop_k (ι:=Nat × Nat × List Write) [0,2,4] [] (fun x=>(0 < x.1∧x.1≤m∧0 < x.2.1∧m+x.2.1≤l.length∧x.2.2.length=l.length)∧rot x.2.2 (m - x.1) m (m+x.2.1)=rot l a m b) (fun x=>x.1+x.2.1) (m - a,b - m,l) (fun x=>[(10,.pv (vint x.1)),(11,.pv (vint x.2.1))]) (fun x=>[(900000,rowL 10 cWrite x.2.2)]) [] ⟨⟨by dsimp only;omega,by dsimp only;omega,by dsimp only;omega,by dsimp only;omega,rfl⟩,by dsimp only;rw [show m - (m - a)=a from by omega,show m+(b - m)=b from by omega]⟩ ?_ (fun x hk=>?_)
 ·(repeat' (first|exact PSub.rfl|exact rfl|exact PSubs.rfl|exact trivial|exact PSub.lit_sb rfl|refine And.intro ?_ ?_))
  ·intro i hi;exact PSubs.rfl
  ·exact PSub.int (by dsimp only;omega)
  ·exact PSub.int (by dsimp only;omega)
 obtain⟨i,j,cur⟩:=x
 obtain⟨⟨hi0,him,hj0,hj,hcl⟩,hinv⟩:=hk
 dsimp only at hi0 him hj0 hj hcl hinv
 have e1:((m - i:Nat):Int)=(m:Int) - i:=by omega
 have e2:((m+j - i:Nat):Int)=(m:Int)+j - i:=by omega
 have c1:=fun(h:j < i)=>Z06h cur (m - i) m j isB D gb gi (by omega) (by omega) (by omega)
 have c2:=fun(h:i < j)=>Z06h cur (m - i) (m+j - i) i isB D gb gi (by omega) (by omega) (by omega)
 have c3:=fun(h:i=j)=>Z06h cur (m - i) m i isB D gb gi (by omega) (by omega) (by omega)
 rw [e1] at c1 c3
 rw [e1,e2] at c2
 dsimp only
 conv=>whnf
 repeat (any_goals (first
  |(refine⟨fun(h:(_:Bool)=true)=>?_,fun(h:(_:Bool)=false)=>?_⟩<;>(try simp only [Q0,Q1,Q2,Q3,Q4,Q5,Q6,Q7,Q8,reduceCtorEq] at h)<;>(conv=>whnf))
  |(refine .inr (.inr (.inr (.inr ⟨[(900000,900000)],[],_,_,_,c1 (by omega),rfl,?_⟩)));conv=>whnf)
  |(refine .inr (.inr (.inr (.inr ⟨[(900000,900000)],[],_,_,_,c2 (by omega),rfl,?_⟩)));conv=>whnf)
  |(refine .inr (.inr (.inr (.inr ⟨[(900000,900000)],[],_,_,_,c3 (by omega),rfl,?_⟩)));conv=>whnf)
  |(refine .inl ⟨wrap64 (by omega),?_⟩;conv=>whnf)))
 ·have h1:j < i:=by omega
  have hsl:=Z0xg cur (m - i) m j
  refine⟨(i - j,j,swpTo cur (m - i) m j),[],⟨⟨by dsimp only;omega,by dsimp only;omega,by dsimp only;omega,by dsimp only;omega,by dsimp only;omega⟩,by dsimp only;rw [Z0qi him (by omega) h1];exact hinv⟩,by dsimp only;omega,?_⟩
  (repeat' (first|exact PSub.rfl|exact rfl|exact PSubs.rfl|exact trivial|exact PSub.lit_sb rfl|refine And.intro ?_ ?_))
  ·intro i hi;exact PSubs.rfl
  ·exact PSub.int (by dsimp only;omega)
 ·have h1:i < j:=by omega
  have hsl:=Z0xg cur (m - i) (m+j - i) i
  refine⟨(i,j - i,swpTo cur (m - i) (m+j - i) i),[],⟨⟨by dsimp only;omega,by dsimp only;omega,by dsimp only;omega,by dsimp only;omega,by dsimp only;omega⟩,by dsimp only;rw [Z0qn him (by omega) h1];exact hinv⟩,by dsimp only;omega,?_⟩
  (repeat' (first|exact PSub.rfl|exact rfl|exact PSubs.rfl|exact trivial|exact PSub.lit_sb rfl|refine And.intro ?_ ?_))
  ·intro i hi;exact PSubs.rfl
  ·exact PSub.int (by dsimp only;omega)
 ·have h1:i=j:=by omega
  subst h1
  rw [←hinv,←Z0qh him (by omega)]
  refine⟨rfl,[],?_⟩
  (repeat' (first|exact PSub.rfl|exact rfl|exact PSubs.rfl|exact trivial|exact PSub.lit_sb rfl|refine And.intro ?_ ?_))
  intro i hi;exact PSubs.rfl
end Go.Abs
namespace Go.Abs
open Go.Proofs
set_option maxRecDepth 10000
def cmpD:List PV→Prop:=fun xs=>∃ x y:Write,xs = [.agg (cWrite x),.agg (cWrite y)]
def CmpS (gi:List PV→Int) (lt:Write→Write→Bool):Prop:=∀ x y:Write,decide (gi [.agg (cWrite x),.agg (cWrite y)] < 0)=lt x y
set_option maxHeartbeats 1000000 in
theorem Z06e (l:List Write) (a b:Nat) (gb:List PV→Bool) (gi:List PV→Int) (lt:Write→Write→Bool) (hw:SWO lt) (hc:CmpS gi lt) (hl:l.length≤1048576) (hab:a≤b) (hb:b≤l.length) :
  AC Tryz.prog 99 [.own 900000,.pv (vint a),.pv (vint b),.clo cmpD false gb gi] [(900000,rowL 10 cWrite l)] (.pv (.tup [])) [(900000,rowL 10 cWrite (srtSeg lt l a b))]:=by
 refine AC.of_awp_gen (T:=T) T_ok hm Tryz.call99 Tryz.func99 rfl rfl rfl rfl rfl rfl ?_
 conv=>whnf
 repeat (any_goals (first
  |(refine .inl ⟨wrap64 (by omega),?_⟩;conv=>whnf)))
 refine loop_k (ι:=Nat) [0,1,2,3] [] (fun i=>a+1≤i∧(i≤b∨i=a+1)) (fun i=>b - i) (a+1) (fun i=>[(8,.pv (vint i))]) (fun i=>[(900000,rowL 10 cWrite (srtSeg lt l a (min i b)))]) [] ⟨by omega,by omega⟩ ?_ (fun i hk=>?_)
 ·rw [Z0uu hw (by omega) (by omega) (fun p q p1 p2 p3=>by omega)]
  (repeat' (first|exact PSub.rfl|exact rfl|exact PSubs.rfl|exact trivial|exact PSub.lit_sb rfl|refine And.intro ?_ ?_))
  intro i hi;exact PSubs.rfl
 obtain⟨hi1,hi2⟩:=hk
 conv=>whnf
 repeat (any_goals (first
  |(refine⟨fun(h:(_:Bool)=true)=>?_,fun(h:(_:Bool)=false)=>?_⟩<;>(try simp only [Q0,Q1,Q2,Q3,Q4,Q5,Q6,Q7,Q8,reduceCtorEq] at h)<;>(conv=>whnf))))
 ·have hib:i < b:=by omega
  have hmin:min i b=i:=by omega
  rw [hmin]
  have hsl:=Z0uq (lt:=lt) (l:=l) (a:=a) (b:=i) (by omega) (by omega)
  refine loop_k (ι:=Nat) [0,1,2,3,8] [] (fun j=>a≤j∧j≤i∧∀ q,j≤q→q < i→lt (l.getD i default) ((srtSeg lt l a i).getD q default)=true) (fun j=>j) i (fun j=>[(9,.pv (vint j))]) (fun j=>[(900000,rowL 10 cWrite (rot (srtSeg lt l a i) j i (i+1)))]) [] ⟨by omega,by omega,fun q q1 q2=>by omega⟩ ?_ (fun j hj=>?_)
  ·rw [Z0ql (by omega)]
   (repeat' (first|exact PSub.rfl|exact rfl|exact PSubs.rfl|exact trivial|exact PSub.lit_sb rfl|refine And.intro ?_ ?_))
   intro i hi;exact PSubs.rfl
  obtain⟨hj1,hj2,hj3⟩:=hj
  have hrl:=Z0qj (srtSeg lt l a i) j i (i+1)
  conv=>whnf
  repeat (any_goals (first
   |(refine⟨fun(h:(_:Bool)=true)=>?_,fun(h:(_:Bool)=false)=>?_⟩<;>(try simp only [Q0,Q1,Q2,Q3,Q4,Q5,Q6,Q7,Q8,reduceCtorEq] at h)<;>(conv=>whnf))
   |(refine And.intro (by(try simp only [Int.toNat_natCast]);omega) ?_;conv=>whnf)
   |(refine And.intro (show(_:Bool)=true from by kernel_rfl) ?_;conv=>whnf)
   |(refine .inl ⟨wrap64 (by omega),?_⟩;conv=>whnf)))
  ·refine And.intro ⟨_,_,rfl⟩ ?_
   have ht:(↑j - 1:Int).toNat=j - 1:=by omega
   have hja:a < j:=by omega
   have hx:(rot (srtSeg lt l a i) j i (i+1)).getD j default=l.getD i default:=by
    rw [Z0qg (by omega),if_pos (by omega),Z0up (by omega) (by omega),if_neg (by omega),if_neg (by omega)]
    congr 1;omega
   have hy:(rot (srtSeg lt l a i) j i (i+1)).getD (j - 1) default=(srtSeg lt l a i).getD (j - 1) default:=by
    rw [Z0qg (by omega),if_neg (by omega),if_neg (by omega)]
   rw [ht]
   conv=>whnf
   repeat (any_goals (first
    |(refine⟨fun(h:(_:Bool)=true)=>?_,fun(h:(_:Bool)=false)=>?_⟩<;>(try simp only [Q0,Q1,Q2,Q3,Q4,Q5,Q6,Q7,Q8,reduceCtorEq] at h)<;>(conv=>whnf))
    |(refine And.intro (by(try simp only [Int.toNat_natCast]);omega) ?_;conv=>whnf)
    |(refine And.intro (show(_:Bool)=true from by kernel_rfl) ?_;conv=>whnf)
    |(refine .inl ⟨wrap64 (by omega),?_⟩;conv=>whnf)))
   ·have h2:=(hc ((rot (srtSeg lt l a i) j i (i+1)).getD j default) ((rot (srtSeg lt l a i) j i (i+1)).getD (j - 1) default)).symm.trans (decide_eq_true h)
    rw [hx,hy] at h2
    rw [ht]
    refine⟨j - 1,[],⟨by omega,by omega,fun q q1 q2=>?_⟩,by omega,?_⟩
    ·by_cases e:q=j - 1
     ·rw [e];exact h2
     ·exact hj3 q (by omega) q2
    rw [←Z0qf (by omega) hj2 (by omega)]
    have hr:=fun q=>Z0xl (l:=rot (srtSeg lt l a i) j i (i+1)) (i:=j) (j:=j - 1) (by omega) (by omega) q
    (repeat' (first|exact PSub.rfl|exact rfl|exact PSubs.rfl|exact trivial|exact PSub.lit_sb rfl|refine And.intro ?_ ?_))
    ·rw [Z0xk]
    ·intro q hq;exact hr q
    ·exact PSub.int (by omega)
   ·have h2:=(hc ((rot (srtSeg lt l a i) j i (i+1)).getD j default) ((rot (srtSeg lt l a i) j i (i+1)).getD (j - 1) default)).symm.trans (decide_eq_false h)
    rw [hx,hy] at h2
    rw [Z0i6 hw hj1 hj2 (by omega) hj3 (fun _=>h2)]
    refine⟨i+1,[],⟨by omega,by omega⟩,by omega,?_⟩
    rw [show min (i+1) b=i+1 from by omega]
    (repeat' (first|exact PSub.rfl|exact rfl|exact PSubs.rfl|exact trivial|exact PSub.lit_sb rfl|refine And.intro ?_ ?_))
    all_goals (intro q hq;exact PSubs.rfl)
  ·rw [Z0i6 hw hj1 hj2 (by omega) hj3 (fun x=>by omega)]
   refine⟨i+1,[],⟨by omega,by omega⟩,by omega,?_⟩
   rw [show min (i+1) b=i+1 from by omega]
   (repeat' (first|exact PSub.rfl|exact rfl|exact PSubs.rfl|exact trivial|exact PSub.lit_sb rfl|refine And.intro ?_ ?_))
   all_goals (intro q hq;exact PSubs.rfl)
 ·rw [show min i b=b from by omega]
  refine⟨rfl,[],?_⟩
  (repeat' (first|exact PSub.rfl|exact rfl|exact PSubs.rfl|exact trivial|exact PSub.lit_sb rfl|refine And.intro ?_ ?_))
  intro i hi;exact PSubs.rfl
end Go.Abs
namespace Go.Abs
open Go.Proofs
set_option maxRecDepth 10000
section
variable {α:Type} [Inhabited α] {lt:α→α→Bool}
theorem rot_up {l:List α} {a k:Nat} (h1:a≤k) (h2:k+1 < l.length):swp (rot l a (a+1) (k+1)) k (k+1)=rot l a (a+1) (k+2):=by
 have hl:=Z0qj l a (a+1) (k+1)
 refine Z0k8 (by rw [Z0xk,hl,Z0qj]) fun q hq=>?_
 rw [Z0xk,hl] at hq
 rw [Z0xj (by omega) (by omega),Z0qg (q:=k) (by omega),Z0qg (q:=k+1) (by omega),Z0qg (q:=q) (by omega),Z0qg (q:=q) (by omega)]
 by_cases e1:q=k+1
 ·subst e1
  rw [if_pos rfl,if_neg (by omega),if_pos (by omega),if_neg (by omega),if_pos (by omega)]
  congr 1;omega
 ·rw [if_neg e1]
  by_cases e2:q=k
  ·subst e2
   rw [if_pos rfl,if_neg (by omega),if_neg (by omega),if_pos (by omega)]
   congr 1;omega
  ·rw [if_neg e2]
   by_cases c:a≤q∧q < k
   ·rw [if_pos (by omega),if_pos (by omega)]
   ·rw [if_neg (by omega),if_neg (by omega),if_neg (by omega),if_neg (by omega)]
theorem Z0qm {l:List α} {a:Nat} (h:a < l.length):rot l a (a+1) (a+1)=l:=by
 refine Z0k8 (Z0qj _ _ _ _) fun q hq=>?_
 rw [Z0qj] at hq
 rw [Z0qg hq,if_neg (by omega)]
 by_cases c:a+(a+1 - (a+1))≤q∧q < a+1
 ·rw [if_pos c];congr 1;omega
 ·rw [if_neg c]
theorem Z0qk {l:List α} {s m e:Nat} (hsm:s≤m) (hme:m≤e) (h:s=m∨m=e):rot l s m e=l:=by
 refine Z0k8 (Z0qj _ _ _ _) fun q hq=>?_
 rw [Z0qj] at hq
 rw [Z0qg hq]
 by_cases c1:s≤q∧q < s+(e - m)
 ·rw [if_pos c1];congr 1;omega
 ·rw [if_neg c1]
  by_cases c2:s+(e - m)≤q∧q < e
  ·rw [if_pos c2];congr 1;omega
  ·rw [if_neg c2]
theorem Z0qo {l:List α} {a m b s e mid:Nat} (has:a≤s) (hsm:s≤m) (hme:m≤e) (heb:e≤b) (hb:b≤l.length) (hmid:mid=s+(e - m)) (hL:srtO lt l a m) (hR:srtO lt l m b) :
  srtO lt (rot l s m e) a s∧srtO lt (rot l s m e) s mid∧srtO lt (rot l s m e) mid e∧srtO lt (rot l s m e) e b:=by
 subst hmid
 have g1:∀ x,x < s→(rot l s m e).getD x default=l.getD x default:=fun x hx=>by rw [Z0qg (by omega),if_neg (by omega),if_neg (by omega)]
 have g2:∀ x,s≤x→x < s+(e - m)→(rot l s m e).getD x default=l.getD (m+(x - s)) default:=fun x h1 h2=>by rw [Z0qg (by omega),if_pos ⟨h1,h2⟩]
 have g3:∀ x,s+(e - m)≤x→x < e→(rot l s m e).getD x default=l.getD (s+(x - (s+(e - m)))) default:=fun x h1 h2=>by rw [Z0qg (by omega),if_neg (by omega),if_pos ⟨h1,h2⟩]
 have g4:∀ x,e≤x→x < b→(rot l s m e).getD x default=l.getD x default:=fun x h1 h2=>by rw [Z0qg (by omega),if_neg (by omega),if_neg (by omega)]
 refine⟨fun p q p1 p2 p3=>?_,fun p q p1 p2 p3=>?_,fun p q p1 p2 p3=>?_,fun p q p1 p2 p3=>?_⟩
 ·rw [g1 p (by omega),g1 q p3];exact hL p q p1 p2 (by omega)
 ·rw [g2 p p1 (by omega),g2 q (by omega) p3];exact hR _ _ (by omega) (by omega) (by omega)
 ·rw [g3 p p1 (by omega),g3 q (by omega) p3];exact hL _ _ (by omega) (by omega) (by omega)
 ·rw [g4 p p1 (by omega),g4 q (by omega) p3];exact hR _ _ (by omega) p2 p3
end
theorem half64 (n:Nat) (s:Int) (hs:s=n) (h:n≤4294967296):IntKind.i64.wrap ((IntKind.u64.wrap s).fdiv (2 ^ min (Int.toNat 1) IntKind.u64.bits))=((n / 2:Nat):Int):=by
 subst hs
 have e1:IntKind.u64.wrap (n:Int)=n:=by simp [IntKind.wrap,IntKind.bits,IntKind.signed];omega
 have e2:(2:Int) ^ min (Int.toNat 1) IntKind.u64.bits=2:=by decide
 rw [e1,e2,Int.fdiv_eq_ediv_of_nonneg _ (by omega),IntKind.wrap_i64]
 omega
set_option maxHeartbeats 2000000 in
theorem Z06j (gb:List PV→Bool) (gi:List PV→Int) (lt:Write→Write→Bool) (hw:SWO lt) (hc:CmpS gi lt) (N:Nat):∀ (l:List Write) (a m b:Nat),b - a≤N→l.length≤1048576→a < m→m < b→b≤l.length→srtO lt l a m→srtO lt l m b→
  AC Tryz.prog 100 [.own 900000,.pv (vint a),.pv (vint m),.pv (vint b),.clo cmpD false gb gi] [(900000,rowL 10 cWrite l)] (.pv (.tup [])) [(900000,rowL 10 cWrite (srtSeg lt l a b))]:=by
 induction N with
 |zero=>intro l a m b h1 h2 h3 h4;omega
 |succ N ih=>
 intro l a m b hN hl ham hmb hb hL hR
 have hle:=fun p q=>Z0ul hw hR (p:=p) (q:=q)
 have hleL:=fun p q=>Z0ul hw hL (p:=p) (q:=q)
 refine AC.of_awp_gen (T:=T) T_ok hm Tryz.call100 Tryz.func100 rfl rfl rfl rfl rfl rfl ?_
 conv=>whnf
 repeat (any_goals (first
  |(refine⟨fun(h:(_:Bool)=true)=>?_,fun(h:(_:Bool)=false)=>?_⟩<;>(try simp only [Q0,Q1,Q2,Q3,Q4,Q5,Q6,Q7,Q8,reduceCtorEq] at h)<;>(conv=>whnf))
  |(refine And.intro (by(try simp only [Int.toNat_natCast]);omega) ?_;conv=>whnf)
  |(refine .inl ⟨wrap64 (by omega),?_⟩;conv=>whnf)))
 ·have hma:m=a+1:=by omega
  subst hma
  refine loop_k (ι:=Nat × Nat) [0,1,2,3,4] [900000] (fun x=>(a+1≤x.1∧x.1≤x.2∧x.2≤b)∧(∀ q,a+1≤q→q < x.1→lt (l.getD q default) (l.getD a default)=true)∧∀ q,x.2≤q→q < b→lt (l.getD q default) (l.getD a default)=false) (fun x=>x.2 - x.1) (a+1,b) (fun x=>[(10,.pv (vint x.1)),(11,.pv (vint x.2))]) (fun x=>[]) [] ⟨⟨by dsimp only;omega,by dsimp only;omega,by dsimp only;omega⟩,fun q q1 q2=>by dsimp only at q2;omega,fun q q1 q2=>by dsimp only at q1;omega⟩ ?_ (fun x hk=>?_)
  ·(repeat' (first|exact PSub.rfl|exact rfl|exact PSubs.rfl|exact trivial|exact PSub.lit_sb rfl|refine And.intro ?_ ?_))
   all_goals (intro q hq;exact PSubs.rfl)
  obtain⟨i,j⟩:=x
  obtain⟨⟨hi,hij,hj⟩,h1,h2⟩:=hk
  dsimp only at hi hij hj h1 h2 ⊢
  conv=>whnf
  repeat (any_goals (first
   |(refine⟨fun(h:(_:Bool)=true)=>?_,fun(h:(_:Bool)=false)=>?_⟩<;>(try simp only [Q0,Q1,Q2,Q3,Q4,Q5,Q6,Q7,Q8,reduceCtorEq] at h)<;>(conv=>whnf))
   |(refine And.intro (by(try simp only [Int.toNat_natCast]);omega) ?_;conv=>whnf)
   |(refine And.intro (show(_:Bool)=true from by kernel_rfl) ?_;conv=>whnf)
   |(refine .inl ⟨wrap64 (by omega),?_⟩;conv=>whnf)))
  ·rw [half64 (i+j) _ (by omega) (by omega)]
   obtain⟨c,hcd⟩:∃ c,c=(i+j) / 2:=⟨_,rfl⟩
   rw [←hcd]
   repeat (any_goals (first
    |(refine And.intro (by(try simp only [Int.toNat_natCast]);omega) ?_;conv=>whnf)))
   refine And.intro ⟨_,_,rfl⟩ ?_
   conv=>whnf
   repeat (any_goals (first
    |(refine⟨fun(h:(_:Bool)=true)=>?_,fun(h:(_:Bool)=false)=>?_⟩<;>(try simp only [Q0,Q1,Q2,Q3,Q4,Q5,Q6,Q7,Q8,reduceCtorEq] at h)<;>(conv=>whnf))
    |(refine And.intro (show(_:Bool)=true from by kernel_rfl) ?_;conv=>whnf)
    |(refine .inl ⟨wrap64 (by omega),?_⟩;conv=>whnf)))
   ·have h3:=(hc (l.getD c default) (l.getD a default)).symm.trans (decide_eq_true h)
    refine⟨(c+1,j),[],⟨⟨by dsimp only;omega,by dsimp only;omega,by dsimp only;omega⟩,fun q q1 q2=>?_,h2⟩,by dsimp only;omega,?_⟩
    ·dsimp only at q2
     exact hw.le_lt (hle q c q1 (by omega) (by omega)) h3
    (repeat' (first|exact PSub.rfl|exact rfl|exact PSubs.rfl|exact trivial|exact PSub.lit_sb rfl|refine And.intro ?_ ?_))
    all_goals first|exact PSub.int (by dsimp only;omega)|(intro q hq;exact PSubs.rfl)
   ·have h3:=(hc (l.getD c default) (l.getD a default)).symm.trans (decide_eq_false h)
    refine⟨(i,c),[],⟨⟨by dsimp only;omega,by dsimp only;omega,by dsimp only;omega⟩,h1,fun q q1 q2=>?_⟩,by dsimp only;omega,?_⟩
    ·dsimp only at q1
     exact hw.trans _ _ _ (hle c q (by omega) q1 q2) h3
    (repeat' (first|exact PSub.rfl|exact rfl|exact PSubs.rfl|exact trivial|exact PSub.lit_sb rfl|refine And.intro ?_ ?_))
    all_goals first|exact PSub.int (by dsimp only;omega)|(intro q hq;exact PSubs.rfl)
  ·have e:i=j:=by omega
   subst e
   rw [Z0xr hw hi hj hb hR h1 h2]
   refine loop_k (ι:=Nat) [0,1,2,3,4,10] [] (fun k=>a≤k∧k+1≤i) (fun k=>i - k) a (fun k=>[(13,.pv (vint k))]) (fun k=>[(900000,rowL 10 cWrite (rot l a (a+1) (k+1)))]) [] ⟨by omega,by omega⟩ ?_ (fun k hk=>?_)
   ·rw [Z0qm (by omega)]
    (repeat' (first|exact PSub.rfl|exact rfl|exact PSubs.rfl|exact trivial|exact PSub.lit_sb rfl|refine And.intro ?_ ?_))
    all_goals (intro q hq;exact PSubs.rfl)
   obtain⟨k1,k2⟩:=hk
   have hrl:=Z0qj l a (a+1) (k+1)
   conv=>whnf
   repeat (any_goals (first
    |(refine⟨fun(h:(_:Bool)=true)=>?_,fun(h:(_:Bool)=false)=>?_⟩<;>(try simp only [Q0,Q1,Q2,Q3,Q4,Q5,Q6,Q7,Q8,reduceCtorEq] at h)<;>(conv=>whnf))
    |(refine And.intro (by(try simp only [Int.toNat_natCast]);omega) ?_;conv=>whnf)
    |(refine And.intro (show(_:Bool)=true from by kernel_rfl) ?_;conv=>whnf)
    |(refine .inl ⟨wrap64 (by omega),?_⟩;conv=>whnf)))
   ·have ht:(↑k+1:Int).toNat=k+1:=by omega
    refine⟨k+1,[],⟨by omega,by omega⟩,by omega,?_⟩
    rw [←rot_up (by omega) (by omega)]
    have hr:=fun q=>Z0xl (l:=rot l a (a+1) (k+1)) (i:=k) (j:=k+1) (by omega) (by omega) q
    (repeat' (first|exact PSub.rfl|exact rfl|exact PSubs.rfl|exact trivial|exact PSub.lit_sb rfl|refine And.intro ?_ ?_))
    ·rw [Z0xk]
    ·intro q hq;exact hr q
   ·have e:k+1=i:=by omega
    subst e
    refine⟨rfl,[],?_⟩
    (repeat' (first|exact PSub.rfl|exact rfl|exact PSubs.rfl|exact trivial|exact PSub.lit_sb rfl|refine And.intro ?_ ?_))
    intro q hq;exact PSubs.rfl
 ·have hmb2:b=m+1:=by omega
  subst hmb2
  refine loop_k (ι:=Nat × Nat) [0,1,2,3,4] [900000] (fun x=>(a≤x.1∧x.1≤x.2∧x.2≤m)∧(∀ q,a≤q→q < x.1→lt (l.getD m default) (l.getD q default)=false)∧∀ q,x.2≤q→q < m→lt (l.getD m default) (l.getD q default)=true) (fun x=>x.2 - x.1) (a,m) (fun x=>[(14,.pv (vint x.1)),(15,.pv (vint x.2))]) (fun x=>[]) [] ⟨⟨by dsimp only;omega,by dsimp only;omega,by dsimp only;omega⟩,fun q q1 q2=>by dsimp only at q2;omega,fun q q1 q2=>by dsimp only at q1;omega⟩ ?_ (fun x hk=>?_)
  ·(repeat' (first|exact PSub.rfl|exact rfl|exact PSubs.rfl|exact trivial|exact PSub.lit_sb rfl|refine And.intro ?_ ?_))
   all_goals (intro q hq;exact PSubs.rfl)
  obtain⟨i,j⟩:=x
  obtain⟨⟨hi,hij,hj⟩,h1,h2⟩:=hk
  dsimp only at hi hij hj h1 h2 ⊢
  conv=>whnf
  repeat (any_goals (first
   |(refine⟨fun(h:(_:Bool)=true)=>?_,fun(h:(_:Bool)=false)=>?_⟩<;>(try simp only [Q0,Q1,Q2,Q3,Q4,Q5,Q6,Q7,Q8,reduceCtorEq] at h)<;>(conv=>whnf))
   |(refine And.intro (by(try simp only [Int.toNat_natCast]);omega) ?_;conv=>whnf)
   |(refine And.intro (show(_:Bool)=true from by kernel_rfl) ?_;conv=>whnf)
   |(refine .inl ⟨wrap64 (by omega),?_⟩;conv=>whnf)))
  ·rw [half64 (i+j) _ (by omega) (by omega)]
   obtain⟨c,hcd⟩:∃ c,c=(i+j) / 2:=⟨_,rfl⟩
   rw [←hcd]
   repeat (any_goals (first
    |(refine And.intro (by(try simp only [Int.toNat_natCast]);omega) ?_;conv=>whnf)))
   refine And.intro ⟨_,_,rfl⟩ ?_
   conv=>whnf
   repeat (any_goals (first
    |(refine⟨fun(h:(_:Bool)=true)=>?_,fun(h:(_:Bool)=false)=>?_⟩<;>(try simp only [Q0,Q1,Q2,Q3,Q4,Q5,Q6,Q7,Q8,reduceCtorEq] at h)<;>(conv=>whnf))
    |(refine And.intro (show(_:Bool)=true from by kernel_rfl) ?_;conv=>whnf)
    |(refine .inl ⟨wrap64 (by omega),?_⟩;conv=>whnf)))
   ·have h3:=(hc (l.getD m default) (l.getD c default)).symm.trans (decide_eq_false h)
    refine⟨(c+1,j),[],⟨⟨by dsimp only;omega,by dsimp only;omega,by dsimp only;omega⟩,fun q q1 q2=>?_,h2⟩,by dsimp only;omega,?_⟩
    ·dsimp only at q2
     exact hw.trans _ _ _ h3 (hleL q c q1 (by omega) (by omega))
    (repeat' (first|exact PSub.rfl|exact rfl|exact PSubs.rfl|exact trivial|exact PSub.lit_sb rfl|refine And.intro ?_ ?_))
    all_goals first|exact PSub.int (by dsimp only;omega)|(intro q hq;exact PSubs.rfl)
   ·have h3:=(hc (l.getD m default) (l.getD c default)).symm.trans (decide_eq_true h)
    refine⟨(i,c),[],⟨⟨by dsimp only;omega,by dsimp only;omega,by dsimp only;omega⟩,h1,fun q q1 q2=>?_⟩,by dsimp only;omega,?_⟩
    ·dsimp only at q1
     exact hw.lt_le h3 (hleL c q (by omega) q1 q2)
    (repeat' (first|exact PSub.rfl|exact rfl|exact PSubs.rfl|exact trivial|exact PSub.lit_sb rfl|refine And.intro ?_ ?_))
    all_goals first|exact PSub.int (by dsimp only;omega)|(intro q hq;exact PSubs.rfl)
  ·have e:i=j:=by omega
   subst e
   rw [Z0xs hw hi hj hb hL h1 h2]
   refine loop_k (ι:=Nat) [0,1,2,3,4,14] [] (fun k=>i≤k∧k≤m) (fun k=>k) m (fun k=>[(17,.pv (vint k))]) (fun k=>[(900000,rowL 10 cWrite (rot l k m (m+1)))]) [] ⟨by omega,by omega⟩ ?_ (fun k hk=>?_)
   ·rw [Z0ql (by omega)]
    (repeat' (first|exact PSub.rfl|exact rfl|exact PSubs.rfl|exact trivial|exact PSub.lit_sb rfl|refine And.intro ?_ ?_))
    all_goals (intro q hq;exact PSubs.rfl)
   obtain⟨k1,k2⟩:=hk
   have hrl:=Z0qj l k m (m+1)
   conv=>whnf
   repeat (any_goals (first
    |(refine⟨fun(h:(_:Bool)=true)=>?_,fun(h:(_:Bool)=false)=>?_⟩<;>(try simp only [Q0,Q1,Q2,Q3,Q4,Q5,Q6,Q7,Q8,reduceCtorEq] at h)<;>(conv=>whnf))
    |(refine And.intro (by(try simp only [Int.toNat_natCast]);omega) ?_;conv=>whnf)
    |(refine And.intro (show(_:Bool)=true from by kernel_rfl) ?_;conv=>whnf)
    |(refine .inl ⟨wrap64 (by omega),?_⟩;conv=>whnf)))
   ·have ht:(↑k - 1:Int).toNat=k - 1:=by omega
    rw [ht]
    refine⟨k - 1,[],⟨by omega,by omega⟩,by omega,?_⟩
    rw [←Z0qf (by omega) k2 (by omega)]
    have hr:=fun q=>Z0xl (l:=rot l k m (m+1)) (i:=k) (j:=k - 1) (by omega) (by omega) q
    (repeat' (first|exact PSub.rfl|exact rfl|exact PSubs.rfl|exact trivial|exact PSub.lit_sb rfl|refine And.intro ?_ ?_))
    ·rw [Z0xk]
    ·intro q hq;exact hr q
    ·exact PSub.int (by omega)
   ·have e:k=i:=by omega
    subst e
    refine⟨rfl,[],?_⟩
    (repeat' (first|exact PSub.rfl|exact rfl|exact PSubs.rfl|exact trivial|exact PSub.lit_sb rfl|refine And.intro ?_ ?_))
    intro q hq;exact PSubs.rfl
 rw [half64 (a+b) _ (by omega) (by omega)]
 obtain⟨b1,b2,b3,b4,b5⟩:=Z0xp ham hmb
 have hd1:=fun c c'=>Z0xn hw ham hmb hL hR (c:=c) (c':=c')
 have hd2:=fun c c'=>Z0xo hw ham hmb hL hR (c:=c) (c':=c')
 have hfd:=fun s=>Z0xq (s:=s) hw ham hmb hb hL hR
 have hq:∀ c,symQ lt l a m b c=lt (l.getD ((a+b) / 2+m - 1 - c) default) (l.getD c default):=fun c=>rfl
 have elo:symLo a m b=if (a+b) / 2 < m then (a+b) / 2+m - b else a:=rfl
 have ehi:symHi a m b=if (a+b) / 2 < m then (a+b) / 2 else m:=rfl
 have hm1:a≤(a+b) / 2∧(a+b) / 2 < b∧b≤2 * ((a+b) / 2 - a)+1+a:=by omega
 generalize (a+b) / 2=mid at *
 generalize symLo a m b=lo at *
 generalize symHi a m b=hi at *
 repeat (any_goals (first
  |(refine⟨fun(h:(_:Bool)=true)=>?_,fun(h:(_:Bool)=false)=>?_⟩<;>(try simp only [Q0,Q1,Q2,Q3,Q4,Q5,Q6,Q7,Q8,reduceCtorEq] at h)<;>(conv=>whnf))
  |(refine .inl ⟨wrap64 (by omega),?_⟩;conv=>whnf)))
 ·rw [if_pos (by omega)] at elo ehi
  refine loop_k (ι:=Nat × Nat) [0,1,2,3,4,18,19,22] [900000] (fun x=>(lo≤x.1∧x.1≤x.2∧x.2≤hi)∧(∀ c,lo≤c→c < x.1→symQ lt l a m b c=false)∧∀ c,x.2≤c→c < hi→symQ lt l a m b c=true) (fun x=>x.2 - x.1) (lo,hi) (fun x=>[(20,.pv (vint x.1)),(21,.pv (vint x.2))]) (fun x=>[]) [] ⟨⟨by dsimp only;omega,by dsimp only;omega,by dsimp only;omega⟩,fun q q1 q2=>by dsimp only at q2;omega,fun q q1 q2=>by dsimp only at q1;omega⟩ ?_ (fun x hk=>?_)
  ·(repeat' (first|exact PSub.rfl|exact rfl|exact PSubs.rfl|exact trivial|exact PSub.lit_sb rfl|refine And.intro ?_ ?_))
   all_goals first|exact PSub.int (by dsimp only;omega)|(intro q hq;exact PSubs.rfl)
  obtain⟨s,r⟩:=x
  obtain⟨⟨hi1,hij,hj⟩,h1,h2⟩:=hk
  dsimp only at hi1 hij hj h1 h2 ⊢
  conv=>whnf
  refine⟨fun h=>?_,fun h=>?_⟩<;>(try simp only [Q0,Q1,Q2,Q3,Q4,Q5,Q6,Q7,Q8,reduceCtorEq] at h)<;>(conv=>whnf)
  ·repeat (any_goals (first
    |(refine And.intro (by(try simp only [Int.toNat_natCast]);omega) ?_;conv=>whnf)
    |(refine And.intro (show(_:Bool)=true from by kernel_rfl) ?_;conv=>whnf)
    |(refine .inl ⟨wrap64 (by omega),?_⟩;conv=>whnf)))
   rw [half64 (s+r) _ (by omega) (by omega)]
   obtain⟨c,hcd⟩:∃ c,c=(s+r) / 2:=⟨_,rfl⟩
   rw [←hcd]
   have b6:=b4 c (by omega) (by omega)
   have ht:(↑mid + ↑m - 1 - ↑c:Int).toNat=mid+m - 1 - c:=by omega
   repeat (any_goals (first
    |(refine And.intro (by(try simp only [Int.toNat_natCast]);omega) ?_;conv=>whnf)
    |(refine .inl ⟨wrap64 (by omega),?_⟩;conv=>whnf)))
   refine And.intro ⟨_,_,rfl⟩ ?_
   rw [ht]
   conv=>whnf
   repeat (any_goals (first
    |(refine⟨fun(h:(_:Bool)=true)=>?_,fun(h:(_:Bool)=false)=>?_⟩<;>(try simp only [Q0,Q1,Q2,Q3,Q4,Q5,Q6,Q7,Q8,reduceCtorEq] at h)<;>(conv=>whnf))
    |(refine And.intro (show(_:Bool)=true from by kernel_rfl) ?_;conv=>whnf)
    |(refine .inl ⟨wrap64 (by omega),?_⟩;conv=>whnf)))
   ·have h3:=(hc (l.getD (mid+m - 1 - c) default) (l.getD c default)).symm.trans (decide_eq_false h)
    rw [←hq] at h3
    refine⟨(c+1,r),[],⟨⟨by dsimp only;omega,by dsimp only;omega,by dsimp only;omega⟩,fun q q1 q2=>?_,h2⟩,by dsimp only;omega,?_⟩
    ·dsimp only at q2
     exact hd1 c q h3 q1 (by omega) (by omega)
    (repeat' (first|exact PSub.rfl|exact rfl|exact PSubs.rfl|exact trivial|exact PSub.lit_sb rfl|refine And.intro ?_ ?_))
    all_goals first|exact PSub.int (by dsimp only;omega)|(intro q hq;exact PSubs.rfl)
   ·have h3:=(hc (l.getD (mid+m - 1 - c) default) (l.getD c default)).symm.trans (decide_eq_true h)
    rw [←hq] at h3
    refine⟨(s,c),[],⟨⟨by dsimp only;omega,by dsimp only;omega,by dsimp only;omega⟩,h1,fun q q1 q2=>?_⟩,by dsimp only;omega,?_⟩
    ·dsimp only at q1
     exact hd2 c q h3 (by omega) q1 q2
    (repeat' (first|exact PSub.rfl|exact rfl|exact PSubs.rfl|exact trivial|exact PSub.lit_sb rfl|refine And.intro ?_ ?_))
    all_goals first|exact PSub.int (by dsimp only;omega)|(intro q hq;exact PSubs.rfl)
  ·have e:s=r:=by omega
   subst e
   have b6:=b5 s hi1 hj
   have hfin:=hfd s hi1 hj h1 h2
   have hpart:=Z0qo (l:=l) (a:=a) (m:=m) (b:=b) (s:=s) (e:=mid+m - s) (mid:=mid) (by omega) (by omega) b6.1 b6.2 hb (by omega) hL hR
   have hRl:=Z0qj l s m (mid+m - s)
   have hnil:=Z0qk (l:=l) (s:=s) (m:=m) (e:=mid+m - s) (by omega) b6.1
   have ee:((mid+m - s:Nat):Int)=(mid:Int)+m - s:=by omega
   have c1:=fun(h1:s < m) (h2:m < mid+m - s)=>Z06f l s m (mid+m - s) false cmpD gb gi hl h1 h2 (by omega)
   rw [ee] at c1
   rw [←hfin]
   obtain⟨R,hRd⟩:∃ R,R=rot l s m (mid+m - s):=⟨_,rfl⟩
   rw [←hRd] at hpart hRl hnil c1 ⊢
   obtain⟨hR1,hR2,hR3,hR4⟩:=hpart
   obtain⟨S,hSd⟩:∃ S,S=srtSeg lt R a mid:=⟨_,rfl⟩
   have hSl:S.length=R.length:=by rw [hSd];exact Z0uq (by omega) (by omega)
   have hS1:srtO lt S mid (mid+m - s):=by rw [hSd];exact Z0ur (by omega) (by omega) (.inr (Nat.le_refl _)) hR3
   have hS2:srtO lt S (mid+m - s) b:=by rw [hSd];exact Z0ur (by omega) (by omega) (.inr (by omega)) hR4
   have hT:¬ (mid < mid+m - s∧mid+m - s < b)→srtSeg lt S mid b=S:=fun h=>by
    rcases Nat.lt_or_ge mid (mid+m - s) with g|g
    ·have g2:mid+m - s=b:=by omega
     rw [g2] at hS1
     exact Z0uu hw (by omega) (by omega) hS1
    ·have g2:mid+m - s=mid:=by omega
     rw [g2] at hS2
     exact Z0uu hw (by omega) (by omega) hS2
   have hS:¬ (a < s∧s < mid)→S=R:=fun h=>by
    rw [hSd]
    refine Z0uu hw (by omega) (by omega) ?_
    rcases Nat.lt_or_ge a s with g|g
    ·have g2:s=mid:=by omega
     rw [g2] at hR1;exact hR1
    ·have g2:s=a:=by omega
     rw [g2] at hR2;exact hR2
   have hRe:¬ (s < m∧m < mid+m - s)→R=l:=fun h=>hnil (by omega)
   have c2:=fun(h1:a < s) (h2:s < mid)=>ih R a s mid (by omega) (by omega) h1 h2 (by omega) hR1 hR2
   have c3:=fun(h1:mid < mid+m - s) (h2:mid+m - s < b)=>ih S mid (mid+m - s) b (by omega) (by omega) h1 h2 (by omega) hS1 hS2
   rw [←hSd] at c2
   obtain⟨T,hTd⟩:∃ T,T=srtSeg lt S mid b:=⟨_,rfl⟩
   rw [←hTd] at c3 hT
   rw [ee] at c3
   have c2l:=fun(h:¬ (s < m∧m < mid+m - s))=>(hRe h) ▸ c2
   have c3R:=fun(h:¬ (a < s∧s < mid))=>(hS h) ▸ c3
   have c3l:=fun(h:¬ (s < m∧m < mid+m - s)) (h':¬ (a < s∧s < mid))=>(hRe h) ▸ (c3R h')
   rw [←hSd,←hTd]
   clear hTd hSd hRd hfin hnil hd1 hd2 hq hfd b4 b5 ih hle hleL
   repeat (any_goals (first
    |(refine⟨fun(h:(_:Bool)=true)=>?_,fun(h:(_:Bool)=false)=>?_⟩<;>(try simp only [Q0,Q1,Q2,Q3,Q4,Q5,Q6,Q7,Q8,reduceCtorEq] at h)<;>(conv=>whnf))
    |(refine .inr (.inr (.inr (.inr ⟨[(900000,900000)],[],_,_,_,c1 (by omega) (by omega),rfl,?_⟩)));conv=>whnf)
    |(refine .inr (.inr (.inr (.inr ⟨[(900000,900000)],[],_,_,_,c2 (by omega) (by omega),rfl,?_⟩)));conv=>whnf)
    |(refine .inr (.inr (.inr (.inr ⟨[(900000,900000)],[],_,_,_,c2l (by omega) (by omega) (by omega),rfl,?_⟩)));conv=>whnf)
    |(refine .inr (.inr (.inr (.inr ⟨[(900000,900000)],[],_,_,_,c3 (by omega) (by omega),rfl,?_⟩)));conv=>whnf)
    |(refine .inr (.inr (.inr (.inr ⟨[(900000,900000)],[],_,_,_,c3R (by omega) (by omega) (by omega),rfl,?_⟩)));conv=>whnf)
    |(refine .inr (.inr (.inr (.inr ⟨[(900000,900000)],[],_,_,_,c3l (by omega) (by omega) (by omega) (by omega),rfl,?_⟩)));conv=>whnf)
    |(refine .inl ⟨wrap64 (by omega),?_⟩;conv=>whnf)))
   all_goals first
    |(refine⟨rfl,[],?_⟩;(repeat' (first|exact PSub.rfl|exact rfl|exact PSubs.rfl|exact trivial|exact PSub.lit_sb rfl|refine And.intro ?_ ?_));(intro q hq;exact PSubs.rfl))
    |(rw [hT (by omega)];(refine⟨rfl,[],?_⟩;(repeat' (first|exact PSub.rfl|exact rfl|exact PSubs.rfl|exact trivial|exact PSub.lit_sb rfl|refine And.intro ?_ ?_));(intro q hq;exact PSubs.rfl)))
    |(rw [hT (by omega),hS (by omega)];(refine⟨rfl,[],?_⟩;(repeat' (first|exact PSub.rfl|exact rfl|exact PSubs.rfl|exact trivial|exact PSub.lit_sb rfl|refine And.intro ?_ ?_));(intro q hq;exact PSubs.rfl)))
    |(rw [hS (by omega)] at hT;rw [hRe (by omega)] at hT;rw [hT (by omega)];(refine⟨rfl,[],?_⟩;(repeat' (first|exact PSub.rfl|exact rfl|exact PSubs.rfl|exact trivial|exact PSub.lit_sb rfl|refine And.intro ?_ ?_));(intro q hq;exact PSubs.rfl)))
    |(rw [hRe (by omega)] at hS;rw [hT (by omega),hS (by omega)];(refine⟨rfl,[],?_⟩;(repeat' (first|exact PSub.rfl|exact rfl|exact PSubs.rfl|exact trivial|exact PSub.lit_sb rfl|refine And.intro ?_ ?_));(intro q hq;exact PSubs.rfl)))
 ·rw [if_neg (by omega)] at elo ehi
  refine loop_k (ι:=Nat × Nat) [0,1,2,3,4,18,19,22] [900000] (fun x=>(lo≤x.1∧x.1≤x.2∧x.2≤hi)∧(∀ c,lo≤c→c < x.1→symQ lt l a m b c=false)∧∀ c,x.2≤c→c < hi→symQ lt l a m b c=true) (fun x=>x.2 - x.1) (lo,hi) (fun x=>[(20,.pv (vint x.1)),(21,.pv (vint x.2))]) (fun x=>[]) [] ⟨⟨by dsimp only;omega,by dsimp only;omega,by dsimp only;omega⟩,fun q q1 q2=>by dsimp only at q2;omega,fun q q1 q2=>by dsimp only at q1;omega⟩ ?_ (fun x hk=>?_)
  ·(repeat' (first|exact PSub.rfl|exact rfl|exact PSubs.rfl|exact trivial|exact PSub.lit_sb rfl|refine And.intro ?_ ?_))
   all_goals first|exact PSub.int (by dsimp only;omega)|(intro q hq;exact PSubs.rfl)
  obtain⟨s,r⟩:=x
  obtain⟨⟨hi1,hij,hj⟩,h1,h2⟩:=hk
  dsimp only at hi1 hij hj h1 h2 ⊢
  conv=>whnf
  refine⟨fun h=>?_,fun h=>?_⟩<;>(try simp only [Q0,Q1,Q2,Q3,Q4,Q5,Q6,Q7,Q8,reduceCtorEq] at h)<;>(conv=>whnf)
  ·repeat (any_goals (first
    |(refine And.intro (by(try simp only [Int.toNat_natCast]);omega) ?_;conv=>whnf)
    |(refine And.intro (show(_:Bool)=true from by kernel_rfl) ?_;conv=>whnf)
    |(refine .inl ⟨wrap64 (by omega),?_⟩;conv=>whnf)))
   rw [half64 (s+r) _ (by omega) (by omega)]
   obtain⟨c,hcd⟩:∃ c,c=(s+r) / 2:=⟨_,rfl⟩
   rw [←hcd]
   have b6:=b4 c (by omega) (by omega)
   have ht:(↑mid + ↑m - 1 - ↑c:Int).toNat=mid+m - 1 - c:=by omega
   repeat (any_goals (first
    |(refine And.intro (by(try simp only [Int.toNat_natCast]);omega) ?_;conv=>whnf)
    |(refine .inl ⟨wrap64 (by omega),?_⟩;conv=>whnf)))
   refine And.intro ⟨_,_,rfl⟩ ?_
   rw [ht]
   conv=>whnf
   repeat (any_goals (first
    |(refine⟨fun(h:(_:Bool)=true)=>?_,fun(h:(_:Bool)=false)=>?_⟩<;>(try simp only [Q0,Q1,Q2,Q3,Q4,Q5,Q6,Q7,Q8,reduceCtorEq] at h)<;>(conv=>whnf))
    |(refine And.intro (show(_:Bool)=true from by kernel_rfl) ?_;conv=>whnf)
    |(refine .inl ⟨wrap64 (by omega),?_⟩;conv=>whnf)))
   ·have h3:=(hc (l.getD (mid+m - 1 - c) default) (l.getD c default)).symm.trans (decide_eq_false h)
    rw [←hq] at h3
    refine⟨(c+1,r),[],⟨⟨by dsimp only;omega,by dsimp only;omega,by dsimp only;omega⟩,fun q q1 q2=>?_,h2⟩,by dsimp only;omega,?_⟩
    ·dsimp only at q2
     exact hd1 c q h3 q1 (by omega) (by omega)
    (repeat' (first|exact PSub.rfl|exact rfl|exact PSubs.rfl|exact trivial|exact PSub.lit_sb rfl|refine And.intro ?_ ?_))
    all_goals first|exact PSub.int (by dsimp only;omega)|(intro q hq;exact PSubs.rfl)
   ·have h3:=(hc (l.getD (mid+m - 1 - c) default) (l.getD c default)).symm.trans (decide_eq_true h)
    rw [←hq] at h3
    refine⟨(s,c),[],⟨⟨by dsimp only;omega,by dsimp only;omega,by dsimp only;omega⟩,h1,fun q q1 q2=>?_⟩,by dsimp only;omega,?_⟩
    ·dsimp only at q1
     exact hd2 c q h3 (by omega) q1 q2
    (repeat' (first|exact PSub.rfl|exact rfl|exact PSubs.rfl|exact trivial|exact PSub.lit_sb rfl|refine And.intro ?_ ?_))
    all_goals first|exact PSub.int (by dsimp only;omega)|(intro q hq;exact PSubs.rfl)
  ·have e:s=r:=by omega
   subst e
   have b6:=b5 s hi1 hj
   have hfin:=hfd s hi1 hj h1 h2
   have hpart:=Z0qo (l:=l) (a:=a) (m:=m) (b:=b) (s:=s) (e:=mid+m - s) (mid:=mid) (by omega) (by omega) b6.1 b6.2 hb (by omega) hL hR
   have hRl:=Z0qj l s m (mid+m - s)
   have hnil:=Z0qk (l:=l) (s:=s) (m:=m) (e:=mid+m - s) (by omega) b6.1
   have ee:((mid+m - s:Nat):Int)=(mid:Int)+m - s:=by omega
   have c1:=fun(h1:s < m) (h2:m < mid+m - s)=>Z06f l s m (mid+m - s) false cmpD gb gi hl h1 h2 (by omega)
   rw [ee] at c1
   rw [←hfin]
   obtain⟨R,hRd⟩:∃ R,R=rot l s m (mid+m - s):=⟨_,rfl⟩
   rw [←hRd] at hpart hRl hnil c1 ⊢
   obtain⟨hR1,hR2,hR3,hR4⟩:=hpart
   obtain⟨S,hSd⟩:∃ S,S=srtSeg lt R a mid:=⟨_,rfl⟩
   have hSl:S.length=R.length:=by rw [hSd];exact Z0uq (by omega) (by omega)
   have hS1:srtO lt S mid (mid+m - s):=by rw [hSd];exact Z0ur (by omega) (by omega) (.inr (Nat.le_refl _)) hR3
   have hS2:srtO lt S (mid+m - s) b:=by rw [hSd];exact Z0ur (by omega) (by omega) (.inr (by omega)) hR4
   have hT:¬ (mid < mid+m - s∧mid+m - s < b)→srtSeg lt S mid b=S:=fun h=>by
    rcases Nat.lt_or_ge mid (mid+m - s) with g|g
    ·have g2:mid+m - s=b:=by omega
     rw [g2] at hS1
     exact Z0uu hw (by omega) (by omega) hS1
    ·have g2:mid+m - s=mid:=by omega
     rw [g2] at hS2
     exact Z0uu hw (by omega) (by omega) hS2
   have hS:¬ (a < s∧s < mid)→S=R:=fun h=>by
    rw [hSd]
    refine Z0uu hw (by omega) (by omega) ?_
    rcases Nat.lt_or_ge a s with g|g
    ·have g2:s=mid:=by omega
     rw [g2] at hR1;exact hR1
    ·have g2:s=a:=by omega
     rw [g2] at hR2;exact hR2
   have hRe:¬ (s < m∧m < mid+m - s)→R=l:=fun h=>hnil (by omega)
   have c2:=fun(h1:a < s) (h2:s < mid)=>ih R a s mid (by omega) (by omega) h1 h2 (by omega) hR1 hR2
   have c3:=fun(h1:mid < mid+m - s) (h2:mid+m - s < b)=>ih S mid (mid+m - s) b (by omega) (by omega) h1 h2 (by omega) hS1 hS2
   rw [←hSd] at c2
   obtain⟨T,hTd⟩:∃ T,T=srtSeg lt S mid b:=⟨_,rfl⟩
   rw [←hTd] at c3 hT
   rw [ee] at c3
   have c2l:=fun(h:¬ (s < m∧m < mid+m - s))=>(hRe h) ▸ c2
   have c3R:=fun(h:¬ (a < s∧s < mid))=>(hS h) ▸ c3
   have c3l:=fun(h:¬ (s < m∧m < mid+m - s)) (h':¬ (a < s∧s < mid))=>(hRe h) ▸ (c3R h')
   rw [←hSd,←hTd]
   clear hTd hSd hRd hfin hnil hd1 hd2 hq hfd b4 b5 ih hle hleL
   repeat (any_goals (first
    |(refine⟨fun(h:(_:Bool)=true)=>?_,fun(h:(_:Bool)=false)=>?_⟩<;>(try simp only [Q0,Q1,Q2,Q3,Q4,Q5,Q6,Q7,Q8,reduceCtorEq] at h)<;>(conv=>whnf))
    |(refine .inr (.inr (.inr (.inr ⟨[(900000,900000)],[],_,_,_,c1 (by omega) (by omega),rfl,?_⟩)));conv=>whnf)
    |(refine .inr (.inr (.inr (.inr ⟨[(900000,900000)],[],_,_,_,c2 (by omega) (by omega),rfl,?_⟩)));conv=>whnf)
    |(refine .inr (.inr (.inr (.inr ⟨[(900000,900000)],[],_,_,_,c2l (by omega) (by omega) (by omega),rfl,?_⟩)));conv=>whnf)
    |(refine .inr (.inr (.inr (.inr ⟨[(900000,900000)],[],_,_,_,c3 (by omega) (by omega),rfl,?_⟩)));conv=>whnf)
    |(refine .inr (.inr (.inr (.inr ⟨[(900000,900000)],[],_,_,_,c3R (by omega) (by omega) (by omega),rfl,?_⟩)));conv=>whnf)
    |(refine .inr (.inr (.inr (.inr ⟨[(900000,900000)],[],_,_,_,c3l (by omega) (by omega) (by omega) (by omega),rfl,?_⟩)));conv=>whnf)
    |(refine .inl ⟨wrap64 (by omega),?_⟩;conv=>whnf)))
   all_goals first
    |(refine⟨rfl,[],?_⟩;(repeat' (first|exact PSub.rfl|exact rfl|exact PSubs.rfl|exact trivial|exact PSub.lit_sb rfl|refine And.intro ?_ ?_));(intro q hq;exact PSubs.rfl))
    |(rw [hT (by omega)];(refine⟨rfl,[],?_⟩;(repeat' (first|exact PSub.rfl|exact rfl|exact PSubs.rfl|exact trivial|exact PSub.lit_sb rfl|refine And.intro ?_ ?_));(intro q hq;exact PSubs.rfl)))
    |(rw [hT (by omega),hS (by omega)];(refine⟨rfl,[],?_⟩;(repeat' (first|exact PSub.rfl|exact rfl|exact PSubs.rfl|exact trivial|exact PSub.lit_sb rfl|refine And.intro ?_ ?_));(intro q hq;exact PSubs.rfl)))
    |(rw [hS (by omega)] at hT;rw [hRe (by omega)] at hT;rw [hT (by omega)];(refine⟨rfl,[],?_⟩;(repeat' (first|exact PSub.rfl|exact rfl|exact PSubs.rfl|exact trivial|exact PSub.lit_sb rfl|refine And.intro ?_ ?_));(intro q hq;exact PSubs.rfl)))
    |(rw [hRe (by omega)] at hS;rw [hT (by omega),hS (by omega)];(refine⟨rfl,[],?_⟩;(repeat' (first|exact PSub.rfl|exact rfl|exact PSubs.rfl|exact trivial|exact PSub.lit_sb rfl|refine And.intro ?_ ?_));(intro q hq;exact PSubs.rfl)))
end Go.Abs
namespace Go.Abs
open Go.RowKit
variable [Globals]
def rowArgs:List AV→Bool
 | []=>true
 | .pv _ :: l=>rowArgs l
 | .own _ :: l=>rowArgs l
 |_ :: _=>false
theorem Z0qq {P:Program} {w:World} {St St' M:Nat→Prop} {σ:Sig}:∀ {l:List AV},rowArgs l=true→∀ (i:Nat) (x:AV) (v:Value),l[i]? = some x→AR P w St M σ x v→AR P w St' M σ x v
 | .pv _ :: l,_,0,x,v,e,h=>by simp at e;subst e;exact .pv _ _ (arg_pv h)
 | .own _ :: l,_,0,x,v,e,h=>by
  simp at e;subst e
  cases h with
  |own _ _ h=>exact .own _ _ h
 | .pv _ :: l,h,i+1,x,v,e,hA=>Z0qq (l:=l) (by simpa [rowArgs] using h) i x v (by simpa using e) hA
 | .own _ :: l,h,i+1,x,v,e,hA=>Z0qq (l:=l) (by simpa [rowArgs] using h) i x v (by simpa using e) hA
def rowsU:Upd→Bool
 | []=>true
 |(_,.gone) :: u=>rowsU u
 |(_,.row _ _ _) :: u=>rowsU u
 |_ :: _=>false
theorem Z0qv {P:Program} {w:World} {A B M0:Nat→Prop} {σ:Sig}:∀ {u:Upd},rowsU u=true→∀ (l:Nat) (o:AObj),getO u l=some o→At P w A M0 σ l o→At P w B M0 σ l o
 |(i,.gone) :: u,h,l,o,e,hA=>by
  rw [Z0g8] at e
  split at e
  ·cases e;exact hA
  ·exact Z0qv (u:=u) (by simpa [rowsU] using h) l o e hA
 |(i,.row s n f) :: u,h,l,o,e,hA=>by
  rw [Z0g8] at e
  split at e
  ·cases e
   obtain⟨loc,h1,h2⟩:=hA
   refine⟨loc,h1,?_⟩
   cases h2 with
   |row0 _ _ a=>exact .row0 _ _ a
   |row _ _ _ b cap vs t hb hn hmax hsz hs hh h9=>exact .row _ _ _ b cap vs t hb hn hmax hsz hs hh h9
  ·exact Z0qv (u:=u) (by simpa [rowsU] using h) l o e hA
theorem AC.with_fn_rows {P:Program} {g f:FuncId} {pre post:List AV} {caps:List PV} {dom:List PV→Prop} {isB:Bool} {gb:List PV→Bool} {gi:List PV→Int} {res:AV} {os os':Upd}
  (h:AC P g (pre ++ .clo dom isB gb gi :: post) os res os')
  (hcall:∀ (vals:Array Value) (w:World),(callFunc f vals).run P w = .ok (.enter f vals) w) (hpre:rowArgs pre=true) (hpost:rowArgs post=true) (ho:rowsU os=true) (ho':rowsU os'=true) (hres:rowArgs [res]=true)
  (hf:∀ xs,dom xs→AC P f (xs.map .pv ++ caps.map .pv) [] (.pv (cloRes isB gb gi xs)) []):AC P g (pre ++ .fn f (caps.map .pv) :: post) os res os':=by
 refine⟨h.1,fun St M0 σ w vals hi hσ hos hl hA=>?_⟩
 have hinv:Inv (fun b=>b < w.heap.size∧¬ owned σ b) M0 σ w:=⟨hi.sep,hi.lt,hi.m0,fun b h=>h,hi.gl⟩
 refine(h.2 (fun b=>b < w.heap.size∧¬ owned σ b) M0 σ w vals hinv hσ (fun k o e=>Z0qv ho k o e (hos k o e)) (by simpa using hl) (fun i x hx=>?_)).mono ?_
 ·by_cases h1:i=pre.length
  ·subst h1
   simp at hx
   subst hx
   have hfv:=hA pre.length (.fn f (caps.map .pv)) (by simp)
   cases hv:vals.getD pre.length undef with
   |func fn first vs=>_
   |_=>rw [hv] at hfv;cases hfv
   rw [hv] at hfv
   cases hfv with
   |fn _ _ _ hlc hcap=>
    refine .clo _ _ _ _ f vs (fun b=>b < w.heap.size∧¬ owned σ b) (fun b hb=>⟨hb,hb.1⟩) ⟨hcall,?_⟩
    intro w' M xs vs' hd hsz hblk hlen hx
    obtain⟨_,hrun⟩:=hf xs hd
    have hown:∀ b,¬ owned (fun _=>none) b:=fun b ⟨l,loc,h,_⟩=>by cases h
    have hsame:Same (Mof M0 σ) w w':=⟨hsz,fun b hb hn=>hblk b ⟨hb,fun h=>hn (.inr h)⟩⟩
    have hMF:Mof (fun b=>M b∧w'.heap.size≤b∧False) (fun _=>none)=fun _=>False:=funext fun b=>propext ⟨fun h=>h.elim (fun h=>h.2.2) (fun h=>absurd h (hown b)),False.elim⟩
    refine(hrun (fun b=>b < w'.heap.size) (fun b=>M b∧w'.heap.size≤b∧False) (fun _=>none) w' (vs' ++ vs) ⟨fun l l' loc loc' b e=>(by cases e),fun b h=>absurd h (hown b),fun b h=>h.2.2.elim,fun b h=>⟨h,hown b⟩,?_⟩ (fun _ _=>rfl) (fun l o e=>by simp [getO] at e) (by simp [hlen];simpa using hlc) (fun j y hy=>?_)).mono ?_
    ·rw [hMF];exact hi.gl.mono hsame (fun b _ h=>h.elim)
    ·rw [hMF]
     rw [List.getElem?_append] at hy
     split at hy
     ·rename_i hlt
      have hlt':j < xs.length:=by simpa using hlt
      rw [Z0g0 (by omega)]
      simp at hy
      obtain⟨q,hq,rfl⟩:=hy
      exact .pv _ _ ((hx j q hq).mono (Same.refl _ w') (fun b _ h=>h.elim))
     ·rename_i hge
      have hge':xs.length≤j:=by simpa using hge
      rw [Z0g1 (by omega)]
      have h2:=hcap (j - xs.length) y (by simpa using hy)
      rw [hlen]
      simp at hy
      obtain⟨q,hq,rfl⟩:=hy
      exact .pv _ _ ((arg_pv h2).mono hsame (fun b _ h=>h.elim))
    ·rintro e w'' ⟨v,σ',rfl,hp⟩
     have hσ:σ'=fun _=>none:=funext fun l=>hp.old l rfl
     subst hσ
     have hv2:=arg_pv hp.val
     rw [hMF] at hv2
     have hext:FExt (fun _=>False) w' w'':=hp.ext.mono (fun i _ ⟨l,loc,h,_⟩=>(h rfl).elim)
     refine⟨v,rfl,?_,hext⟩
     cases isB with
     |true=>
      cases hv2
      exact .sb _
     |false=>
      cases hv2
      exact .val _
  ·have h2:(pre ++ AV.fn f (caps.map .pv) :: post)[i]? = some x:=by
    rw [List.getElem?_append] at hx ⊢
    split at hx
    ·rename_i hlt;rw [if_pos hlt];exact hx
    ·rename_i hge
     rw [if_neg hge]
     have:i - pre.length≠0:=by omega
     cases hk:i - pre.length with
     |zero=>omega
     |succ k=>rw [hk] at hx;simpa using hx
   have hA2:=hA i x h2
   rw [List.getElem?_append] at hx
   split at hx
   ·exact Z0qq hpre i x _ hx hA2
   ·rename_i hge
    cases hk:i - pre.length with
    |zero=>omega
    |succ k=>rw [hk] at hx;exact Z0qq hpost k x _ (by simpa using hx) hA2
 ·rintro e w' ⟨v,σ',he,hp⟩
  exact⟨v,σ',he,⟨Z0qq hres 0 res v rfl hp.val,fun k o e=>Z0qv ho' k o e (hp.obj k o e),hp.old,hp.stay,hp.sep,hp.blk,hp.ext.mono fun b _ ⟨k,loc,h1,h2,h3⟩=>⟨k,loc,h1,h2,h3⟩⟩⟩
end Go.Abs
