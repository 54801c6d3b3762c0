/- YtipbekclhmbclaaGreatDoorX04: walks and contracts. -/
import Derived.Test.YtipbekclhmbclaaGreatDoorX03
import Derived.Carry
import Derived.ProofKit
import Derived.OpenShut
import Derived.Deep.DeepHandedRow
import Derived.Lib.LaidTab
import Derived.Test.YtipbekclhmbclaaGreatDoorProg
import Derived.KernelRfl
import Derived.Laws.RangeString

set_option linter.unusedVariables false
set_option linter.unusedSimpArgs false
set_option linter.unusedSectionVars false

namespace Go.Abs
open Go.RowKit Go.ChangeShapes
def strData {H:Type} (ss:List ByteArray):DataW H:=.agg (ss.map fun s=>.lit (.string s.data.toList))
theorem Z0as {H:Type} {enc:TypeId × Value→H} {P:Program} {w:World} {base:Nat} {sp:Nat→Bool} {held:Bool} {fuel:Nat} {t e:TypeId} {n:Nat} {cs:List Value} {ss:List ByteArray} {p:List MemPlace}
  (ht:P.underlying t=some (.array n e)) (he:P.underlying e=some .string) (hce:P.cellsOf e=1) (hct:P.cellsOf t=n)
  (h:DataW.trod enc P w base sp held fuel t cs=some (strData ss,p)):cs=ss.map fun s=>Value.string s:=by
 cases fuel with
 |zero=>simp [DataW.trod] at h
 |succ fuel=>
  simp only [DataW.trod,ht,hce,hct,Nat.mul_one] at h
  split at h
  ·rename_i hl
   obtain⟨xs,hm,hx⟩:=Option.map_eq_some_iff.1 h
   have hxs:xs.map (·.1)=ss.map fun s=>(DataW.lit (.string s.data.toList):DataW H):=by
    have:=congrArg Prod.fst hx
    simpa [strData] using this
   have hxl:xs.length=n:=by simpa using Lib.mapM_length hm
   have hzl:ss.length=n:=by
    have:=congrArg List.length hxs
    simp at this
    omega
   apply List.ext_getElem?
   intro i
   by_cases hi:i < n
   ·obtain⟨b,hb,hf⟩:=Lib.mapM_at hm i i (by simp [hi])
    obtain⟨z,hc,rfl,_⟩:=DataW.trod_string he hf
    have h1:cs[i]? = some (.string z):=by
     have:=congrArg (·[0]?) hc
     simpa [List.getElem?_take,List.getElem?_drop] using this
    have h2:(xs.map (·.1))[i]? = some (DataW.lit (.string z.data.toList):DataW H):=by simp [hb]
    rw [hxs] at h2
    simp only [List.getElem?_map,Option.map_eq_some_iff,DataW.lit.injEq,Lit.string.injEq] at h2
    obtain⟨z',hz',e⟩:=h2
    have ez:z'=z:=by
     cases z';cases z
     congr 1
     exact Array.toList_inj.1 e
    subst ez
    simp [h1,hz']
   ·rw [List.getElem?_eq_none (by omega),List.getElem?_eq_none (by simp;omega)]
  ·cases h
theorem strTab {P:Program} {W:World} {name:String} {ss:List ByteArray} {rest:List (String × DataW Unit)} {g:Nat} {t e:TypeId} {n:Nat}
  (hg:P.globalNamed name=some g) (hty:(P.globals[g]?).map (·.type)=some t) (ht:P.underlying t=some (.array n e)) (he:P.underlying e=some .string) (hce:P.cellsOf e=1) (hct:P.cellsOf t=n) (hpos:0 < ss.length)
  (h:laidMet P ((name,strData ss) :: rest) W):PR W (fun _=>False) (.cell (ss.map fun s=>.val (.string s))) (.pointer (some ⟨g,0,none⟩)):=by
 obtain⟨ps,⟨g',t',cs,fuel,p,q,hg',ht',hvar,hd,_,_⟩,_⟩:=h
 obtain rfl:=Option.some.inj (hg.symm.trans hg')
 obtain rfl:=Option.some.inj (hty.symm.trans ht')
 have hcs:=Z0as ht he hce hct hd
 have hcell:∀ j,j < ss.length→W.cell? ⟨g,j,none⟩=some (.string (ss.getD j default)):=fun j hj=>by
  rw [World.var?_cell hg hvar j]
  have:cs.toList[j]? = some (.string (ss.getD j default)):=by rw [hcs];simp [List.getD,hj]
  simpa using this
 have hadd:∀ j,(⟨g,0,none⟩:Addr).add j=⟨g,j,none⟩:=fun j=>by unfold Addr.add;split<;>simp_all
 refine .cell _ ⟨g,0,none⟩ (fun j=>.string (ss.getD j default)) ?_ (fun h=>h) (fun j hj=>?_) (fun j p hp=>?_)
 ·have:=hcell 0 hpos
  unfold World.cell? at this
  split at this
  ·rename_i hb;exact Z0kt hb
  ·cases this
 ·rw [hadd,hcell j (by simpa using hj)];exact⟨rfl,rfl⟩
 ·simp only [List.getElem?_map,Option.map_eq_some_iff] at hp
  obtain⟨s,hs,rfl⟩:=hp
  have:ss.getD j default=s:=by simp [List.getD,hs]
  rw [this];exact .val _
section
variable {H:Type} {enc:TypeId × Value→H} {P:Program}
theorem Z0y8 (hl:laidOutB P=true) {W W':World} (hb:Below W.heap.size W W'):∀ {ts:List TypeId} {vs:List Value} {ds:List (DataW H)} {ps:List MemPlace},(∀ t ∈ ts,P.readableRec t=true∧t < P.types.size)→
  DataW.TrodAll enc P W 0 (fun _=>true) true ts vs ds ps→DataW.TrodAll enc P W' 0 (fun b=>decide (b < W.heap.size)) true ts vs ds ps
 | [],[],[],ps,_,h=>h
 |t :: ts,v :: vs,d :: ds,ps,ht,h=>by
  obtain⟨p,q,h1,h2,rfl⟩:=h
  exact⟨p,q,Below.trod hl (ht t (by simp)).1 (ht t (by simp)).2 h1 hb (fun x hx=>DataW.TrodAll.lt (ts:=[t]) (vs:=[v]) (ds:=[d]) (ps:=p) ⟨p,[],h1,rfl,by simp⟩ x hx),Z0y8 hl hb (fun t' h'=>ht t' (by simp [h'])) h2,rfl⟩
 | [],_ :: _,_,_,_,h=>h.elim
 | [],[],_ :: _,_,_,h=>h.elim
 |_ :: _,[],_,_,_,h=>h.elim
 |_ :: _,_ :: _,[],_,_,h=>h.elim
theorem Z0jw {f:Func} {s:ChangeSpec} {W W':World} {args:Array Value} {ds gs:List (DataW H)} {before:List MemPlace} {tb:TypeId} (hl:laidOutB P=true) (hr:∀ t ∈ f.params.toList,P.readableRec t=true∧t < P.types.size)
  (hres:f.resultTypes=#[tb]) (htb:P.underlying tb=some .bool) (hv:s.vars = []) (hfn:s.fn H ds ={ results:=[.lit (.bool true)],args:=ds }) (hb:Below W.heap.size W W')
  (hW:DataW.Whole enc P f.params.toList s.vars false W args.toList ds gs before):s.post enc P f false true false false W args (.bool true) W':=by
 have hW2:=hW
 obtain⟨p,q,h1,h2,rfl,_,_⟩:=hW
 rw [hv] at h2
 have hgs:gs = []∧q = []:=by
  cases gs with
  |nil=>exact⟨rfl,h2⟩
  |cons g gs=>exact h2.elim
 obtain⟨rfl,rfl⟩:=hgs
 refine⟨ds,[],p ++ [],[],p,[],hW2,?_,?_,?_,hb.frame _,fun h=>by cases h⟩
 ·rw [List.append_nil,hfn,hres]
  exact⟨[],[],⟨1,by show DataW.trod enc P W' _ _ _ 1 tb [.bool true]=_;simp [DataW.trod,htb]⟩,rfl,rfl⟩
 ·rw [List.append_nil,hfn]
  exact Z0y8 hl hb hr h1
 ·rw [List.append_nil,hfn,hv];exact rfl
end
end Go.Abs
namespace Go.Abs
open Go.Proofs
def glob0:List ByteArray:=[⟨#[111,110,111,102,102]⟩,⟨#[108,101,118,101,108]⟩,⟨#[108,111,99,107]⟩,⟨#[116,104,101,114,109,111,115,116,97,116]⟩,⟨#[115,109,111,107,101]⟩,⟨#[108,101,97,107]⟩,⟨#[118,97,108,118,101]⟩,⟨#[109,101,116,101,114]⟩]
instance:Globals:=⟨fun g=>match Nat.beq g 0 with|true=>some (glob0.map fun s=>.val (.string s))|false=>none⟩
theorem eqt55 (e:Nat):EqAt Tryz.prog (e+2) 55 [.int .i64,.int .i64,.str]:=EqAt.struct Tryz.underlying55 (by kernel_rfl) (.one 0 _ _ (.int .i64) _ (by decide) rfl Tryz.underlying3 (.one 1 _ _ (.int .i64) _ (by decide) rfl Tryz.underlying3 (.one 2 _ _ (.str) _ (by decide) rfl Tryz.underlying9 (.nil _))))
theorem eqt56 (e:Nat):EqAt Tryz.prog (e+2) 56 [.int .i64,.int .i64,.str]:=EqAt.struct Tryz.underlying56 (by kernel_rfl) (.one 0 _ _ (.int .i64) _ (by decide) rfl Tryz.underlying3 (.one 1 _ _ (.int .i64) _ (by decide) rfl Tryz.underlying3 (.one 2 _ _ (.str) _ (by decide) rfl Tryz.underlying9 (.nil _))))
theorem eqt57 (e:Nat):EqAt Tryz.prog (e+2) 57 [.int .i64,.str,.str]:=EqAt.struct Tryz.underlying57 (by kernel_rfl) (.one 0 _ _ (.int .i64) _ (by decide) rfl Tryz.underlying3 (.one 1 _ _ (.str) _ (by decide) rfl Tryz.underlying9 (.one 2 _ _ (.str) _ (by decide) rfl Tryz.underlying9 (.nil _))))
theorem eqt58 (e:Nat):EqAt Tryz.prog (e+2) 58 [.int .i64,.str,.str]:=EqAt.struct Tryz.underlying58 (by kernel_rfl) (.one 0 _ _ (.int .i64) _ (by decide) rfl Tryz.underlying3 (.one 1 _ _ (.str) _ (by decide) rfl Tryz.underlying9 (.one 2 _ _ (.str) _ (by decide) rfl Tryz.underlying9 (.nil _))))
theorem eqt65 (e:Nat):EqAt Tryz.prog (e+2) 65 [.int .i64,.str,.int .i64]:=EqAt.struct Tryz.underlying65 (by kernel_rfl) (.one 0 _ _ (.int .i64) _ (by decide) rfl Tryz.underlying3 (.one 1 _ _ (.str) _ (by decide) rfl Tryz.underlying9 (.one 2 _ _ (.int .i64) _ (by decide) rfl Tryz.underlying3 (.nil _))))
theorem eqt66 (e:Nat):EqAt Tryz.prog (e+2) 66 [.int .i64,.str,.int .i64]:=EqAt.struct Tryz.underlying66 (by kernel_rfl) (.one 0 _ _ (.int .i64) _ (by decide) rfl Tryz.underlying3 (.one 1 _ _ (.str) _ (by decide) rfl Tryz.underlying9 (.one 2 _ _ (.int .i64) _ (by decide) rfl Tryz.underlying3 (.nil _))))
theorem eqt67 (e:Nat):EqAt Tryz.prog (e+3) 67 [.int .i64,.str,.str,.int .i64,.int .i64,.str,.int .i64,.str,.int .i64,.int .i64]:=EqAt.struct Tryz.underlying67 (by kernel_rfl) (.many 0 _ _ [.int .i64,.str,.str] _ (by decide) rfl Tryz.t58 _ Tryz.underlying58 (by kernel_rfl) rfl (eqt58 e) (.many 3 _ _ [.int .i64,.int .i64,.str] _ (by decide) rfl Tryz.t56 _ Tryz.underlying56 (by kernel_rfl) rfl (eqt56 e) (.many 6 _ _ [.int .i64,.str,.int .i64] _ (by decide) rfl Tryz.t66 _ Tryz.underlying66 (by kernel_rfl) rfl (eqt66 e) (.one 9 _ _ (.int .i64) _ (by decide) rfl Tryz.underlying3 (.nil _)))))
theorem eqt68 (e:Nat):EqAt Tryz.prog (e+3) 68 [.int .i64,.str,.str,.int .i64,.int .i64,.str,.int .i64,.str,.int .i64,.int .i64]:=EqAt.struct Tryz.underlying68 (by kernel_rfl) (.many 0 _ _ [.int .i64,.str,.str] _ (by decide) rfl Tryz.t58 _ Tryz.underlying58 (by kernel_rfl) rfl (eqt58 e) (.many 3 _ _ [.int .i64,.int .i64,.str] _ (by decide) rfl Tryz.t56 _ Tryz.underlying56 (by kernel_rfl) rfl (eqt56 e) (.many 6 _ _ [.int .i64,.str,.int .i64] _ (by decide) rfl Tryz.t66 _ Tryz.underlying66 (by kernel_rfl) rfl (eqt66 e) (.one 9 _ _ (.int .i64) _ (by decide) rfl Tryz.underlying3 (.nil _)))))
theorem eqt94 (e:Nat):EqAt Tryz.prog (e+3) 94 [.int .i64,.str,.int .i64,.int .i64]:=EqAt.struct Tryz.underlying94 (by kernel_rfl) (.many 0 _ _ [.int .i64,.str,.int .i64] _ (by decide) rfl Tryz.t66 _ Tryz.underlying66 (by kernel_rfl) rfl (eqt66 e) (.one 3 _ _ (.int .i64) _ (by decide) rfl Tryz.underlying3 (.nil _)))
theorem eqt95 (e:Nat):EqAt Tryz.prog (e+3) 95 [.int .i64,.str,.int .i64,.int .i64]:=EqAt.struct Tryz.underlying95 (by kernel_rfl) (.many 0 _ _ [.int .i64,.str,.int .i64] _ (by decide) rfl Tryz.t66 _ Tryz.underlying66 (by kernel_rfl) rfl (eqt66 e) (.one 3 _ _ (.int .i64) _ (by decide) rfl Tryz.underlying3 (.nil _)))
theorem eqt106 (e:Nat):EqAt Tryz.prog (e+3) 106 [.int .i64,.str,.str,.int .i64,.int .i64,.str,.int .i64]:=EqAt.struct Tryz.underlying106 (by kernel_rfl) (.many 0 _ _ [.int .i64,.str,.str] _ (by decide) rfl Tryz.t58 _ Tryz.underlying58 (by kernel_rfl) rfl (eqt58 e) (.many 3 _ _ [.int .i64,.int .i64,.str] _ (by decide) rfl Tryz.t56 _ Tryz.underlying56 (by kernel_rfl) rfl (eqt56 e) (.one 6 _ _ (.int .i64) _ (by decide) rfl Tryz.underlying3 (.nil _))))
theorem eqt107 (e:Nat):EqAt Tryz.prog (e+3) 107 [.int .i64,.str,.str,.int .i64,.int .i64,.str,.int .i64]:=EqAt.struct Tryz.underlying107 (by kernel_rfl) (.many 0 _ _ [.int .i64,.str,.str] _ (by decide) rfl Tryz.t58 _ Tryz.underlying58 (by kernel_rfl) rfl (eqt58 e) (.many 3 _ _ [.int .i64,.int .i64,.str] _ (by decide) rfl Tryz.t56 _ Tryz.underlying56 (by kernel_rfl) rfl (eqt56 e) (.one 6 _ _ (.int .i64) _ (by decide) rfl Tryz.underlying3 (.nil _))))
theorem eqt108 (e:Nat):EqAt Tryz.prog (e+2) 108 [.int .i64,.str,.str]:=EqAt.struct Tryz.underlying108 (by kernel_rfl) (.one 0 _ _ (.int .i64) _ (by decide) rfl Tryz.underlying3 (.one 1 _ _ (.str) _ (by decide) rfl Tryz.underlying9 (.one 2 _ _ (.str) _ (by decide) rfl Tryz.underlying9 (.nil _))))
theorem eqt109 (e:Nat):EqAt Tryz.prog (e+2) 109 [.int .i64,.str,.str]:=EqAt.struct Tryz.underlying109 (by kernel_rfl) (.one 0 _ _ (.int .i64) _ (by decide) rfl Tryz.underlying3 (.one 1 _ _ (.str) _ (by decide) rfl Tryz.underlying9 (.one 2 _ _ (.str) _ (by decide) rfl Tryz.underlying9 (.nil _))))
theorem eqt119 (e:Nat):EqAt Tryz.prog (e+3) 119 [.int .i64,.int .i64,.str,.str,.int .i64,.str,.str,.str,.int .i64,.int .i64]:=EqAt.struct Tryz.underlying119 (by kernel_rfl) (.one 0 _ _ (.int .i64) _ (by decide) rfl Tryz.underlying3 (.many 1 _ _ [.int .i64,.str,.str] _ (by decide) rfl Tryz.t58 _ Tryz.underlying58 (by kernel_rfl) rfl (eqt58 e) (.many 4 _ _ [.int .i64,.str,.str] _ (by decide) rfl Tryz.t109 _ Tryz.underlying109 (by kernel_rfl) rfl (eqt109 e) (.one 7 _ _ (.str) _ (by decide) rfl Tryz.underlying9 (.one 8 _ _ (.int .i64) _ (by decide) rfl Tryz.underlying3 (.one 9 _ _ (.int .i64) _ (by decide) rfl Tryz.underlying3 (.nil _)))))))
theorem eqt120 (e:Nat):EqAt Tryz.prog (e+3) 120 [.int .i64,.int .i64,.str,.str,.int .i64,.str,.str,.str,.int .i64,.int .i64]:=EqAt.struct Tryz.underlying120 (by kernel_rfl) (.one 0 _ _ (.int .i64) _ (by decide) rfl Tryz.underlying3 (.many 1 _ _ [.int .i64,.str,.str] _ (by decide) rfl Tryz.t58 _ Tryz.underlying58 (by kernel_rfl) rfl (eqt58 e) (.many 4 _ _ [.int .i64,.str,.str] _ (by decide) rfl Tryz.t109 _ Tryz.underlying109 (by kernel_rfl) rfl (eqt109 e) (.one 7 _ _ (.str) _ (by decide) rfl Tryz.underlying9 (.one 8 _ _ (.int .i64) _ (by decide) rfl Tryz.underlying3 (.one 9 _ _ (.int .i64) _ (by decide) rfl Tryz.underlying3 (.nil _)))))))
theorem eqt159 (e:Nat):EqAt Tryz.prog (e+2) 159 [.int .i64,.str,.int .i64]:=EqAt.struct Tryz.underlying159 (by kernel_rfl) (.one 0 _ _ (.int .i64) _ (by decide) rfl Tryz.underlying3 (.one 1 _ _ (.str) _ (by decide) rfl Tryz.underlying9 (.one 2 _ _ (.int .i64) _ (by decide) rfl Tryz.underlying3 (.nil _))))
theorem eqt160 (e:Nat):EqAt Tryz.prog (e+2) 160 [.int .i64,.str,.int .i64]:=EqAt.struct Tryz.underlying160 (by kernel_rfl) (.one 0 _ _ (.int .i64) _ (by decide) rfl Tryz.underlying3 (.one 1 _ _ (.str) _ (by decide) rfl Tryz.underlying9 (.one 2 _ _ (.int .i64) _ (by decide) rfl Tryz.underlying3 (.nil _))))
theorem eqt309 (e:Nat):EqAt Tryz.prog (e+2) 309 [.int .i64,.int .i64]:=EqAt.struct Tryz.underlying309 (by kernel_rfl) (.one 0 _ _ (.int .i64) _ (by decide) rfl Tryz.underlying3 (.one 1 _ _ (.int .i64) _ (by decide) rfl Tryz.underlying3 (.nil _)))
theorem eqt310 (e:Nat):EqAt Tryz.prog (e+2) 310 [.int .i64,.int .i64]:=EqAt.struct Tryz.underlying310 (by kernel_rfl) (.one 0 _ _ (.int .i64) _ (by decide) rfl Tryz.underlying3 (.one 1 _ _ (.int .i64) _ (by decide) rfl Tryz.underlying3 (.nil _)))
def TYok (t:Nat) (ty:TY):Prop:=Tryz.prog.info? t=some ty.info∧Tryz.prog.underlying t=some ty.und∧(ty.leaves = []∨EqOK Tryz.prog t ty.leaves)
noncomputable abbrev ty0:TY:=⟨Tryz.t0,Tryz.t0.desc,[]⟩
theorem ok0:TYok 0 ty0:=⟨by kernel_rfl,by kernel_rfl,.inl rfl⟩
noncomputable abbrev ty1:TY:=⟨Tryz.t1,Tryz.t1.desc,[]⟩
theorem ok1:TYok 1 ty1:=⟨by kernel_rfl,by kernel_rfl,.inl rfl⟩
noncomputable abbrev ty2:TY:=⟨Tryz.t2,Tryz.t2.desc,[]⟩
theorem ok2:TYok 2 ty2:=⟨by kernel_rfl,by kernel_rfl,.inl rfl⟩
noncomputable abbrev ty3:TY:=⟨Tryz.t3,Tryz.t3.desc,[]⟩
theorem ok3:TYok 3 ty3:=⟨by kernel_rfl,by kernel_rfl,.inl rfl⟩
noncomputable abbrev ty4:TY:=⟨Tryz.t4,Tryz.t4.desc,[]⟩
theorem ok4:TYok 4 ty4:=⟨by kernel_rfl,by kernel_rfl,.inl rfl⟩
noncomputable abbrev ty5:TY:=⟨Tryz.t5,Tryz.t5.desc,[]⟩
theorem ok5:TYok 5 ty5:=⟨by kernel_rfl,by kernel_rfl,.inl rfl⟩
noncomputable abbrev ty6:TY:=⟨Tryz.t6,Tryz.t5.desc,[]⟩
theorem ok6:TYok 6 ty6:=⟨by kernel_rfl,by kernel_rfl,.inl rfl⟩
noncomputable abbrev ty7:TY:=⟨Tryz.t7,Tryz.t7.desc,[]⟩
theorem ok7:TYok 7 ty7:=⟨by kernel_rfl,by kernel_rfl,.inl rfl⟩
noncomputable abbrev ty8:TY:=⟨Tryz.t8,Tryz.t7.desc,[]⟩
theorem ok8:TYok 8 ty8:=⟨by kernel_rfl,by kernel_rfl,.inl rfl⟩
noncomputable abbrev ty9:TY:=⟨Tryz.t9,Tryz.t9.desc,[]⟩
theorem ok9:TYok 9 ty9:=⟨by kernel_rfl,by kernel_rfl,.inl rfl⟩
noncomputable abbrev ty10:TY:=⟨Tryz.t10,Tryz.t9.desc,[]⟩
theorem ok10:TYok 10 ty10:=⟨by kernel_rfl,by kernel_rfl,.inl rfl⟩
noncomputable abbrev ty11:TY:=⟨Tryz.t11,Tryz.t9.desc,[]⟩
theorem ok11:TYok 11 ty11:=⟨by kernel_rfl,by kernel_rfl,.inl rfl⟩
noncomputable abbrev ty12:TY:=⟨Tryz.t12,Tryz.t12.desc,[]⟩
theorem ok12:TYok 12 ty12:=⟨by kernel_rfl,by kernel_rfl,.inl rfl⟩
noncomputable abbrev ty13:TY:=⟨Tryz.t13,Tryz.t13.desc,[]⟩
theorem ok13:TYok 13 ty13:=⟨by kernel_rfl,by kernel_rfl,.inl rfl⟩
noncomputable abbrev ty14:TY:=⟨Tryz.t14,Tryz.t13.desc,[]⟩
theorem ok14:TYok 14 ty14:=⟨by kernel_rfl,by kernel_rfl,.inl rfl⟩
noncomputable abbrev ty15:TY:=⟨Tryz.t15,Tryz.t15.desc,[]⟩
theorem ok15:TYok 15 ty15:=⟨by kernel_rfl,by kernel_rfl,.inl rfl⟩
noncomputable abbrev ty16:TY:=⟨Tryz.t16,Tryz.t16.desc,[]⟩
theorem ok16:TYok 16 ty16:=⟨by kernel_rfl,by kernel_rfl,.inl rfl⟩
noncomputable abbrev ty17:TY:=⟨Tryz.t17,Tryz.t17.desc,[]⟩
theorem ok17:TYok 17 ty17:=⟨by kernel_rfl,by kernel_rfl,.inl rfl⟩
noncomputable abbrev ty18:TY:=⟨Tryz.t18,Tryz.t18.desc,[]⟩
theorem ok18:TYok 18 ty18:=⟨by kernel_rfl,by kernel_rfl,.inl rfl⟩
noncomputable abbrev ty19:TY:=⟨Tryz.t19,Tryz.t18.desc,[]⟩
theorem ok19:TYok 19 ty19:=⟨by kernel_rfl,by kernel_rfl,.inl rfl⟩
noncomputable abbrev ty20:TY:=⟨Tryz.t20,Tryz.t20.desc,[]⟩
theorem ok20:TYok 20 ty20:=⟨by kernel_rfl,by kernel_rfl,.inl rfl⟩
noncomputable abbrev ty21:TY:=⟨Tryz.t21,Tryz.t21.desc,[]⟩
theorem ok21:TYok 21 ty21:=⟨by kernel_rfl,by kernel_rfl,.inl rfl⟩
noncomputable abbrev ty22:TY:=⟨Tryz.t22,Tryz.t22.desc,[]⟩
theorem ok22:TYok 22 ty22:=⟨by kernel_rfl,by kernel_rfl,.inl rfl⟩
noncomputable abbrev ty23:TY:=⟨Tryz.t23,Tryz.t23.desc,[]⟩
theorem ok23:TYok 23 ty23:=⟨by kernel_rfl,by kernel_rfl,.inl rfl⟩
noncomputable abbrev ty24:TY:=⟨Tryz.t24,Tryz.t24.desc,[]⟩
theorem ok24:TYok 24 ty24:=⟨by kernel_rfl,by kernel_rfl,.inl rfl⟩
noncomputable abbrev ty25:TY:=⟨Tryz.t25,Tryz.t24.desc,[]⟩
theorem ok25:TYok 25 ty25:=⟨by kernel_rfl,by kernel_rfl,.inl rfl⟩
noncomputable abbrev ty26:TY:=⟨Tryz.t26,Tryz.t26.desc,[]⟩
theorem ok26:TYok 26 ty26:=⟨by kernel_rfl,by kernel_rfl,.inl rfl⟩
noncomputable abbrev ty27:TY:=⟨Tryz.t27,Tryz.t27.desc,[]⟩
theorem ok27:TYok 27 ty27:=⟨by kernel_rfl,by kernel_rfl,.inl rfl⟩
noncomputable abbrev ty28:TY:=⟨Tryz.t28,Tryz.t27.desc,[]⟩
theorem ok28:TYok 28 ty28:=⟨by kernel_rfl,by kernel_rfl,.inl rfl⟩
noncomputable abbrev ty29:TY:=⟨Tryz.t29,Tryz.t29.desc,[]⟩
theorem ok29:TYok 29 ty29:=⟨by kernel_rfl,by kernel_rfl,.inl rfl⟩
noncomputable abbrev ty30:TY:=⟨Tryz.t30,Tryz.t30.desc,[]⟩
theorem ok30:TYok 30 ty30:=⟨by kernel_rfl,by kernel_rfl,.inl rfl⟩
noncomputable abbrev ty31:TY:=⟨Tryz.t31,Tryz.t31.desc,[]⟩
theorem ok31:TYok 31 ty31:=⟨by kernel_rfl,by kernel_rfl,.inl rfl⟩
noncomputable abbrev ty32:TY:=⟨Tryz.t32,Tryz.t32.desc,[]⟩
theorem ok32:TYok 32 ty32:=⟨by kernel_rfl,by kernel_rfl,.inl rfl⟩
noncomputable abbrev ty33:TY:=⟨Tryz.t33,Tryz.t33.desc,[]⟩
theorem ok33:TYok 33 ty33:=⟨by kernel_rfl,by kernel_rfl,.inl rfl⟩
noncomputable abbrev ty34:TY:=⟨Tryz.t34,Tryz.t33.desc,[]⟩
theorem ok34:TYok 34 ty34:=⟨by kernel_rfl,by kernel_rfl,.inl rfl⟩
noncomputable abbrev ty35:TY:=⟨Tryz.t35,Tryz.t35.desc,[]⟩
theorem ok35:TYok 35 ty35:=⟨by kernel_rfl,by kernel_rfl,.inl rfl⟩
noncomputable abbrev ty36:TY:=⟨Tryz.t36,Tryz.t36.desc,[]⟩
theorem ok36:TYok 36 ty36:=⟨by kernel_rfl,by kernel_rfl,.inl rfl⟩
noncomputable abbrev ty37:TY:=⟨Tryz.t37,Tryz.t37.desc,[]⟩
theorem ok37:TYok 37 ty37:=⟨by kernel_rfl,by kernel_rfl,.inl rfl⟩
noncomputable abbrev ty38:TY:=⟨Tryz.t38,Tryz.t37.desc,[]⟩
theorem ok38:TYok 38 ty38:=⟨by kernel_rfl,by kernel_rfl,.inl rfl⟩
noncomputable abbrev ty39:TY:=⟨Tryz.t39,Tryz.t39.desc,[]⟩
theorem ok39:TYok 39 ty39:=⟨by kernel_rfl,by kernel_rfl,.inl rfl⟩
noncomputable abbrev ty40:TY:=⟨Tryz.t40,Tryz.t39.desc,[]⟩
theorem ok40:TYok 40 ty40:=⟨by kernel_rfl,by kernel_rfl,.inl rfl⟩
noncomputable abbrev ty41:TY:=⟨Tryz.t41,Tryz.t41.desc,[]⟩
theorem ok41:TYok 41 ty41:=⟨by kernel_rfl,by kernel_rfl,.inl rfl⟩
noncomputable abbrev ty42:TY:=⟨Tryz.t42,Tryz.t42.desc,[]⟩
theorem ok42:TYok 42 ty42:=⟨by kernel_rfl,by kernel_rfl,.inl rfl⟩
noncomputable abbrev ty43:TY:=⟨Tryz.t43,Tryz.t43.desc,[]⟩
theorem ok43:TYok 43 ty43:=⟨by kernel_rfl,by kernel_rfl,.inl rfl⟩
noncomputable abbrev ty44:TY:=⟨Tryz.t44,Tryz.t44.desc,[]⟩
theorem ok44:TYok 44 ty44:=⟨by kernel_rfl,by kernel_rfl,.inl rfl⟩
noncomputable abbrev ty45:TY:=⟨Tryz.t45,Tryz.t44.desc,[]⟩
theorem ok45:TYok 45 ty45:=⟨by kernel_rfl,by kernel_rfl,.inl rfl⟩
noncomputable abbrev ty46:TY:=⟨Tryz.t46,Tryz.t3.desc,[]⟩
theorem ok46:TYok 46 ty46:=⟨by kernel_rfl,by kernel_rfl,.inl rfl⟩
noncomputable abbrev ty47:TY:=⟨Tryz.t47,Tryz.t47.desc,[]⟩
theorem ok47:TYok 47 ty47:=⟨by kernel_rfl,by kernel_rfl,.inl rfl⟩
noncomputable abbrev ty48:TY:=⟨Tryz.t48,Tryz.t48.desc,[]⟩
theorem ok48:TYok 48 ty48:=⟨by kernel_rfl,by kernel_rfl,.inl rfl⟩
noncomputable abbrev ty49:TY:=⟨Tryz.t49,Tryz.t49.desc,[]⟩
theorem ok49:TYok 49 ty49:=⟨by kernel_rfl,by kernel_rfl,.inl rfl⟩
noncomputable abbrev ty50:TY:=⟨Tryz.t50,Tryz.t50.desc,[]⟩
theorem ok50:TYok 50 ty50:=⟨by kernel_rfl,by kernel_rfl,.inl rfl⟩
noncomputable abbrev ty51:TY:=⟨Tryz.t51,Tryz.t51.desc,[]⟩
theorem ok51:TYok 51 ty51:=⟨by kernel_rfl,by kernel_rfl,.inl rfl⟩
noncomputable abbrev ty52:TY:=⟨Tryz.t52,Tryz.t52.desc,[]⟩
theorem ok52:TYok 52 ty52:=⟨by kernel_rfl,by kernel_rfl,.inl rfl⟩
noncomputable abbrev ty53:TY:=⟨Tryz.t53,Tryz.t53.desc,[]⟩
theorem ok53:TYok 53 ty53:=⟨by kernel_rfl,by kernel_rfl,.inl rfl⟩
noncomputable abbrev ty54:TY:=⟨Tryz.t54,Tryz.t54.desc,[]⟩
theorem ok54:TYok 54 ty54:=⟨by kernel_rfl,by kernel_rfl,.inl rfl⟩
noncomputable abbrev ty55:TY:=⟨Tryz.t55,Tryz.t55.desc,[.int .i64,.int .i64,.str]⟩
theorem ok55:TYok 55 ty55:=⟨by kernel_rfl,by kernel_rfl,.inr ⟨by kernel_rfl,eqt55 9998⟩⟩
noncomputable abbrev ty56:TY:=⟨Tryz.t56,Tryz.t55.desc,[.int .i64,.int .i64,.str]⟩
theorem ok56:TYok 56 ty56:=⟨by kernel_rfl,by kernel_rfl,.inr ⟨by kernel_rfl,eqt56 9998⟩⟩
noncomputable abbrev ty57:TY:=⟨Tryz.t57,Tryz.t57.desc,[.int .i64,.str,.str]⟩
theorem ok57:TYok 57 ty57:=⟨by kernel_rfl,by kernel_rfl,.inr ⟨by kernel_rfl,eqt57 9998⟩⟩
noncomputable abbrev ty58:TY:=⟨Tryz.t58,Tryz.t57.desc,[.int .i64,.str,.str]⟩
theorem ok58:TYok 58 ty58:=⟨by kernel_rfl,by kernel_rfl,.inr ⟨by kernel_rfl,eqt58 9998⟩⟩
noncomputable abbrev ty59:TY:=⟨Tryz.t59,Tryz.t59.desc,[]⟩
theorem ok59:TYok 59 ty59:=⟨by kernel_rfl,by kernel_rfl,.inl rfl⟩
noncomputable abbrev ty60:TY:=⟨Tryz.t60,Tryz.t60.desc,[]⟩
theorem ok60:TYok 60 ty60:=⟨by kernel_rfl,by kernel_rfl,.inl rfl⟩
noncomputable abbrev ty61:TY:=⟨Tryz.t61,Tryz.t60.desc,[]⟩
theorem ok61:TYok 61 ty61:=⟨by kernel_rfl,by kernel_rfl,.inl rfl⟩
noncomputable abbrev ty62:TY:=⟨Tryz.t62,Tryz.t62.desc,[]⟩
theorem ok62:TYok 62 ty62:=⟨by kernel_rfl,by kernel_rfl,.inl rfl⟩
noncomputable abbrev ty63:TY:=⟨Tryz.t63,Tryz.t63.desc,[]⟩
theorem ok63:TYok 63 ty63:=⟨by kernel_rfl,by kernel_rfl,.inl rfl⟩
noncomputable abbrev ty64:TY:=⟨Tryz.t64,Tryz.t63.desc,[]⟩
theorem ok64:TYok 64 ty64:=⟨by kernel_rfl,by kernel_rfl,.inl rfl⟩
noncomputable abbrev ty65:TY:=⟨Tryz.t65,Tryz.t65.desc,[.int .i64,.str,.int .i64]⟩
theorem ok65:TYok 65 ty65:=⟨by kernel_rfl,by kernel_rfl,.inr ⟨by kernel_rfl,eqt65 9998⟩⟩
noncomputable abbrev ty66:TY:=⟨Tryz.t66,Tryz.t65.desc,[.int .i64,.str,.int .i64]⟩
theorem ok66:TYok 66 ty66:=⟨by kernel_rfl,by kernel_rfl,.inr ⟨by kernel_rfl,eqt66 9998⟩⟩
noncomputable abbrev ty67:TY:=⟨Tryz.t67,Tryz.t67.desc,[.int .i64,.str,.str,.int .i64,.int .i64,.str,.int .i64,.str,.int .i64,.int .i64]⟩
theorem ok67:TYok 67 ty67:=⟨by kernel_rfl,by kernel_rfl,.inr ⟨by kernel_rfl,eqt67 9997⟩⟩
noncomputable abbrev ty68:TY:=⟨Tryz.t68,Tryz.t67.desc,[.int .i64,.str,.str,.int .i64,.int .i64,.str,.int .i64,.str,.int .i64,.int .i64]⟩
theorem ok68:TYok 68 ty68:=⟨by kernel_rfl,by kernel_rfl,.inr ⟨by kernel_rfl,eqt68 9997⟩⟩
noncomputable abbrev ty69:TY:=⟨Tryz.t69,Tryz.t69.desc,[]⟩
theorem ok69:TYok 69 ty69:=⟨by kernel_rfl,by kernel_rfl,.inl rfl⟩
noncomputable abbrev ty70:TY:=⟨Tryz.t70,Tryz.t69.desc,[]⟩
theorem ok70:TYok 70 ty70:=⟨by kernel_rfl,by kernel_rfl,.inl rfl⟩
noncomputable abbrev ty71:TY:=⟨Tryz.t71,Tryz.t71.desc,[]⟩
theorem ok71:TYok 71 ty71:=⟨by kernel_rfl,by kernel_rfl,.inl rfl⟩
noncomputable abbrev ty72:TY:=⟨Tryz.t72,Tryz.t72.desc,[]⟩
theorem ok72:TYok 72 ty72:=⟨by kernel_rfl,by kernel_rfl,.inl rfl⟩
noncomputable abbrev ty73:TY:=⟨Tryz.t73,Tryz.t73.desc,[]⟩
theorem ok73:TYok 73 ty73:=⟨by kernel_rfl,by kernel_rfl,.inl rfl⟩
noncomputable abbrev ty74:TY:=⟨Tryz.t74,Tryz.t74.desc,[]⟩
theorem ok74:TYok 74 ty74:=⟨by kernel_rfl,by kernel_rfl,.inl rfl⟩
noncomputable abbrev ty75:TY:=⟨Tryz.t75,Tryz.t75.desc,[]⟩
theorem ok75:TYok 75 ty75:=⟨by kernel_rfl,by kernel_rfl,.inl rfl⟩
noncomputable abbrev ty76:TY:=⟨Tryz.t76,Tryz.t75.desc,[]⟩
theorem ok76:TYok 76 ty76:=⟨by kernel_rfl,by kernel_rfl,.inl rfl⟩
noncomputable abbrev ty77:TY:=⟨Tryz.t77,Tryz.t77.desc,[]⟩
theorem ok77:TYok 77 ty77:=⟨by kernel_rfl,by kernel_rfl,.inl rfl⟩
noncomputable abbrev ty78:TY:=⟨Tryz.t78,Tryz.t78.desc,[]⟩
theorem ok78:TYok 78 ty78:=⟨by kernel_rfl,by kernel_rfl,.inl rfl⟩
noncomputable abbrev ty79:TY:=⟨Tryz.t79,Tryz.t78.desc,[]⟩
theorem ok79:TYok 79 ty79:=⟨by kernel_rfl,by kernel_rfl,.inl rfl⟩
noncomputable abbrev ty80:TY:=⟨Tryz.t80,Tryz.t80.desc,[]⟩
theorem ok80:TYok 80 ty80:=⟨by kernel_rfl,by kernel_rfl,.inl rfl⟩
noncomputable abbrev ty81:TY:=⟨Tryz.t81,Tryz.t81.desc,[]⟩
theorem ok81:TYok 81 ty81:=⟨by kernel_rfl,by kernel_rfl,.inl rfl⟩
noncomputable abbrev ty82:TY:=⟨Tryz.t82,Tryz.t82.desc,[]⟩
theorem ok82:TYok 82 ty82:=⟨by kernel_rfl,by kernel_rfl,.inl rfl⟩
noncomputable abbrev ty83:TY:=⟨Tryz.t83,Tryz.t83.desc,[]⟩
theorem ok83:TYok 83 ty83:=⟨by kernel_rfl,by kernel_rfl,.inl rfl⟩
noncomputable abbrev ty84:TY:=⟨Tryz.t84,Tryz.t84.desc,[]⟩
theorem ok84:TYok 84 ty84:=⟨by kernel_rfl,by kernel_rfl,.inl rfl⟩
noncomputable abbrev ty85:TY:=⟨Tryz.t85,Tryz.t85.desc,[]⟩
theorem ok85:TYok 85 ty85:=⟨by kernel_rfl,by kernel_rfl,.inl rfl⟩
noncomputable abbrev ty86:TY:=⟨Tryz.t86,Tryz.t85.desc,[]⟩
theorem ok86:TYok 86 ty86:=⟨by kernel_rfl,by kernel_rfl,.inl rfl⟩
noncomputable abbrev ty87:TY:=⟨Tryz.t87,Tryz.t87.desc,[]⟩
theorem ok87:TYok 87 ty87:=⟨by kernel_rfl,by kernel_rfl,.inl rfl⟩
noncomputable abbrev ty88:TY:=⟨Tryz.t88,Tryz.t88.desc,[]⟩
theorem ok88:TYok 88 ty88:=⟨by kernel_rfl,by kernel_rfl,.inl rfl⟩
noncomputable abbrev ty89:TY:=⟨Tryz.t89,Tryz.t89.desc,[]⟩
theorem ok89:TYok 89 ty89:=⟨by kernel_rfl,by kernel_rfl,.inl rfl⟩
noncomputable abbrev ty90:TY:=⟨Tryz.t90,Tryz.t90.desc,[]⟩
theorem ok90:TYok 90 ty90:=⟨by kernel_rfl,by kernel_rfl,.inl rfl⟩
noncomputable abbrev ty91:TY:=⟨Tryz.t91,Tryz.t91.desc,[]⟩
theorem ok91:TYok 91 ty91:=⟨by kernel_rfl,by kernel_rfl,.inl rfl⟩
noncomputable abbrev ty92:TY:=⟨Tryz.t92,Tryz.t91.desc,[]⟩
theorem ok92:TYok 92 ty92:=⟨by kernel_rfl,by kernel_rfl,.inl rfl⟩
noncomputable abbrev ty93:TY:=⟨Tryz.t93,Tryz.t93.desc,[]⟩
theorem ok93:TYok 93 ty93:=⟨by kernel_rfl,by kernel_rfl,.inl rfl⟩
noncomputable abbrev ty94:TY:=⟨Tryz.t94,Tryz.t94.desc,[.int .i64,.str,.int .i64,.int .i64]⟩
theorem ok94:TYok 94 ty94:=⟨by kernel_rfl,by kernel_rfl,.inr ⟨by kernel_rfl,eqt94 9997⟩⟩
noncomputable abbrev ty95:TY:=⟨Tryz.t95,Tryz.t94.desc,[.int .i64,.str,.int .i64,.int .i64]⟩
theorem ok95:TYok 95 ty95:=⟨by kernel_rfl,by kernel_rfl,.inr ⟨by kernel_rfl,eqt95 9997⟩⟩
noncomputable abbrev ty96:TY:=⟨Tryz.t96,Tryz.t96.desc,[]⟩
theorem ok96:TYok 96 ty96:=⟨by kernel_rfl,by kernel_rfl,.inl rfl⟩
noncomputable abbrev ty97:TY:=⟨Tryz.t97,Tryz.t97.desc,[]⟩
theorem ok97:TYok 97 ty97:=⟨by kernel_rfl,by kernel_rfl,.inl rfl⟩
noncomputable abbrev ty98:TY:=⟨Tryz.t98,Tryz.t98.desc,[]⟩
theorem ok98:TYok 98 ty98:=⟨by kernel_rfl,by kernel_rfl,.inl rfl⟩
noncomputable abbrev ty99:TY:=⟨Tryz.t99,Tryz.t99.desc,[]⟩
theorem ok99:TYok 99 ty99:=⟨by kernel_rfl,by kernel_rfl,.inl rfl⟩
noncomputable abbrev ty100:TY:=⟨Tryz.t100,Tryz.t100.desc,[]⟩
theorem ok100:TYok 100 ty100:=⟨by kernel_rfl,by kernel_rfl,.inl rfl⟩
noncomputable abbrev ty101:TY:=⟨Tryz.t101,Tryz.t101.desc,[]⟩
theorem ok101:TYok 101 ty101:=⟨by kernel_rfl,by kernel_rfl,.inl rfl⟩
noncomputable abbrev ty102:TY:=⟨Tryz.t102,Tryz.t102.desc,[]⟩
theorem ok102:TYok 102 ty102:=⟨by kernel_rfl,by kernel_rfl,.inl rfl⟩
noncomputable abbrev ty103:TY:=⟨Tryz.t103,Tryz.t103.desc,[]⟩
theorem ok103:TYok 103 ty103:=⟨by kernel_rfl,by kernel_rfl,.inl rfl⟩
noncomputable abbrev ty104:TY:=⟨Tryz.t104,Tryz.t104.desc,[]⟩
theorem ok104:TYok 104 ty104:=⟨by kernel_rfl,by kernel_rfl,.inl rfl⟩
noncomputable abbrev ty105:TY:=⟨Tryz.t105,Tryz.t104.desc,[]⟩
theorem ok105:TYok 105 ty105:=⟨by kernel_rfl,by kernel_rfl,.inl rfl⟩
noncomputable abbrev ty106:TY:=⟨Tryz.t106,Tryz.t106.desc,[.int .i64,.str,.str,.int .i64,.int .i64,.str,.int .i64]⟩
theorem ok106:TYok 106 ty106:=⟨by kernel_rfl,by kernel_rfl,.inr ⟨by kernel_rfl,eqt106 9997⟩⟩
noncomputable abbrev ty107:TY:=⟨Tryz.t107,Tryz.t106.desc,[.int .i64,.str,.str,.int .i64,.int .i64,.str,.int .i64]⟩
theorem ok107:TYok 107 ty107:=⟨by kernel_rfl,by kernel_rfl,.inr ⟨by kernel_rfl,eqt107 9997⟩⟩
noncomputable abbrev ty108:TY:=⟨Tryz.t108,Tryz.t108.desc,[.int .i64,.str,.str]⟩
theorem ok108:TYok 108 ty108:=⟨by kernel_rfl,by kernel_rfl,.inr ⟨by kernel_rfl,eqt108 9998⟩⟩
noncomputable abbrev ty109:TY:=⟨Tryz.t109,Tryz.t108.desc,[.int .i64,.str,.str]⟩
theorem ok109:TYok 109 ty109:=⟨by kernel_rfl,by kernel_rfl,.inr ⟨by kernel_rfl,eqt109 9998⟩⟩
noncomputable abbrev ty110:TY:=⟨Tryz.t110,Tryz.t110.desc,[]⟩
theorem ok110:TYok 110 ty110:=⟨by kernel_rfl,by kernel_rfl,.inl rfl⟩
noncomputable abbrev ty111:TY:=⟨Tryz.t111,Tryz.t111.desc,[]⟩
theorem ok111:TYok 111 ty111:=⟨by kernel_rfl,by kernel_rfl,.inl rfl⟩
noncomputable abbrev ty112:TY:=⟨Tryz.t112,Tryz.t112.desc,[]⟩
theorem ok112:TYok 112 ty112:=⟨by kernel_rfl,by kernel_rfl,.inl rfl⟩
noncomputable abbrev ty113:TY:=⟨Tryz.t113,Tryz.t112.desc,[]⟩
theorem ok113:TYok 113 ty113:=⟨by kernel_rfl,by kernel_rfl,.inl rfl⟩
noncomputable abbrev ty114:TY:=⟨Tryz.t114,Tryz.t114.desc,[]⟩
theorem ok114:TYok 114 ty114:=⟨by kernel_rfl,by kernel_rfl,.inl rfl⟩
noncomputable abbrev ty115:TY:=⟨Tryz.t115,Tryz.t115.desc,[]⟩
theorem ok115:TYok 115 ty115:=⟨by kernel_rfl,by kernel_rfl,.inl rfl⟩
noncomputable abbrev ty116:TY:=⟨Tryz.t116,Tryz.t116.desc,[]⟩
theorem ok116:TYok 116 ty116:=⟨by kernel_rfl,by kernel_rfl,.inl rfl⟩
noncomputable abbrev ty117:TY:=⟨Tryz.t117,Tryz.t117.desc,[]⟩
theorem ok117:TYok 117 ty117:=⟨by kernel_rfl,by kernel_rfl,.inl rfl⟩
noncomputable abbrev ty118:TY:=⟨Tryz.t118,Tryz.t118.desc,[]⟩
theorem ok118:TYok 118 ty118:=⟨by kernel_rfl,by kernel_rfl,.inl rfl⟩
noncomputable abbrev ty119:TY:=⟨Tryz.t119,Tryz.t119.desc,[.int .i64,.int .i64,.str,.str,.int .i64,.str,.str,.str,.int .i64,.int .i64]⟩
theorem ok119:TYok 119 ty119:=⟨by kernel_rfl,by kernel_rfl,.inr ⟨by kernel_rfl,eqt119 9997⟩⟩
noncomputable abbrev ty120:TY:=⟨Tryz.t120,Tryz.t119.desc,[.int .i64,.int .i64,.str,.str,.int .i64,.str,.str,.str,.int .i64,.int .i64]⟩
theorem ok120:TYok 120 ty120:=⟨by kernel_rfl,by kernel_rfl,.inr ⟨by kernel_rfl,eqt120 9997⟩⟩
noncomputable abbrev ty121:TY:=⟨Tryz.t121,Tryz.t121.desc,[]⟩
theorem ok121:TYok 121 ty121:=⟨by kernel_rfl,by kernel_rfl,.inl rfl⟩
noncomputable abbrev ty122:TY:=⟨Tryz.t122,Tryz.t122.desc,[]⟩
theorem ok122:TYok 122 ty122:=⟨by kernel_rfl,by kernel_rfl,.inl rfl⟩
noncomputable abbrev ty123:TY:=⟨Tryz.t123,Tryz.t123.desc,[]⟩
theorem ok123:TYok 123 ty123:=⟨by kernel_rfl,by kernel_rfl,.inl rfl⟩
noncomputable abbrev ty124:TY:=⟨Tryz.t124,Tryz.t124.desc,[]⟩
theorem ok124:TYok 124 ty124:=⟨by kernel_rfl,by kernel_rfl,.inl rfl⟩
noncomputable abbrev ty125:TY:=⟨Tryz.t125,Tryz.t125.desc,[]⟩
theorem ok125:TYok 125 ty125:=⟨by kernel_rfl,by kernel_rfl,.inl rfl⟩
noncomputable abbrev ty126:TY:=⟨Tryz.t126,Tryz.t125.desc,[]⟩
theorem ok126:TYok 126 ty126:=⟨by kernel_rfl,by kernel_rfl,.inl rfl⟩
noncomputable abbrev ty127:TY:=⟨Tryz.t127,Tryz.t127.desc,[]⟩
theorem ok127:TYok 127 ty127:=⟨by kernel_rfl,by kernel_rfl,.inl rfl⟩
noncomputable abbrev ty128:TY:=⟨Tryz.t128,Tryz.t128.desc,[]⟩
theorem ok128:TYok 128 ty128:=⟨by kernel_rfl,by kernel_rfl,.inl rfl⟩
noncomputable abbrev ty129:TY:=⟨Tryz.t129,Tryz.t129.desc,[]⟩
theorem ok129:TYok 129 ty129:=⟨by kernel_rfl,by kernel_rfl,.inl rfl⟩
noncomputable abbrev ty130:TY:=⟨Tryz.t130,Tryz.t130.desc,[]⟩
theorem ok130:TYok 130 ty130:=⟨by kernel_rfl,by kernel_rfl,.inl rfl⟩
noncomputable abbrev ty131:TY:=⟨Tryz.t131,Tryz.t131.desc,[]⟩
theorem ok131:TYok 131 ty131:=⟨by kernel_rfl,by kernel_rfl,.inl rfl⟩
noncomputable abbrev ty132:TY:=⟨Tryz.t132,Tryz.t132.desc,[]⟩
theorem ok132:TYok 132 ty132:=⟨by kernel_rfl,by kernel_rfl,.inl rfl⟩
noncomputable abbrev ty133:TY:=⟨Tryz.t133,Tryz.t133.desc,[]⟩
theorem ok133:TYok 133 ty133:=⟨by kernel_rfl,by kernel_rfl,.inl rfl⟩
noncomputable abbrev ty134:TY:=⟨Tryz.t134,Tryz.t134.desc,[]⟩
theorem ok134:TYok 134 ty134:=⟨by kernel_rfl,by kernel_rfl,.inl rfl⟩
noncomputable abbrev ty135:TY:=⟨Tryz.t135,Tryz.t134.desc,[]⟩
theorem ok135:TYok 135 ty135:=⟨by kernel_rfl,by kernel_rfl,.inl rfl⟩
noncomputable abbrev ty136:TY:=⟨Tryz.t136,Tryz.t134.desc,[]⟩
theorem ok136:TYok 136 ty136:=⟨by kernel_rfl,by kernel_rfl,.inl rfl⟩
noncomputable abbrev ty137:TY:=⟨Tryz.t137,Tryz.t134.desc,[]⟩
theorem ok137:TYok 137 ty137:=⟨by kernel_rfl,by kernel_rfl,.inl rfl⟩
noncomputable abbrev ty138:TY:=⟨Tryz.t138,Tryz.t134.desc,[]⟩
theorem ok138:TYok 138 ty138:=⟨by kernel_rfl,by kernel_rfl,.inl rfl⟩
noncomputable abbrev ty139:TY:=⟨Tryz.t139,Tryz.t134.desc,[]⟩
theorem ok139:TYok 139 ty139:=⟨by kernel_rfl,by kernel_rfl,.inl rfl⟩
noncomputable abbrev ty140:TY:=⟨Tryz.t140,Tryz.t140.desc,[]⟩
theorem ok140:TYok 140 ty140:=⟨by kernel_rfl,by kernel_rfl,.inl rfl⟩
noncomputable abbrev ty141:TY:=⟨Tryz.t141,Tryz.t141.desc,[]⟩
theorem ok141:TYok 141 ty141:=⟨by kernel_rfl,by kernel_rfl,.inl rfl⟩
noncomputable abbrev ty142:TY:=⟨Tryz.t142,Tryz.t142.desc,[]⟩
theorem ok142:TYok 142 ty142:=⟨by kernel_rfl,by kernel_rfl,.inl rfl⟩
noncomputable abbrev ty143:TY:=⟨Tryz.t143,Tryz.t143.desc,[]⟩
theorem ok143:TYok 143 ty143:=⟨by kernel_rfl,by kernel_rfl,.inl rfl⟩
noncomputable abbrev ty144:TY:=⟨Tryz.t144,Tryz.t144.desc,[]⟩
theorem ok144:TYok 144 ty144:=⟨by kernel_rfl,by kernel_rfl,.inl rfl⟩
noncomputable abbrev ty145:TY:=⟨Tryz.t145,Tryz.t145.desc,[]⟩
theorem ok145:TYok 145 ty145:=⟨by kernel_rfl,by kernel_rfl,.inl rfl⟩
noncomputable abbrev ty146:TY:=⟨Tryz.t146,Tryz.t146.desc,[]⟩
theorem ok146:TYok 146 ty146:=⟨by kernel_rfl,by kernel_rfl,.inl rfl⟩
noncomputable abbrev ty147:TY:=⟨Tryz.t147,Tryz.t147.desc,[]⟩
theorem ok147:TYok 147 ty147:=⟨by kernel_rfl,by kernel_rfl,.inl rfl⟩
noncomputable abbrev ty148:TY:=⟨Tryz.t148,Tryz.t148.desc,[]⟩
theorem ok148:TYok 148 ty148:=⟨by kernel_rfl,by kernel_rfl,.inl rfl⟩
noncomputable abbrev ty149:TY:=⟨Tryz.t149,Tryz.t149.desc,[]⟩
theorem ok149:TYok 149 ty149:=⟨by kernel_rfl,by kernel_rfl,.inl rfl⟩
noncomputable abbrev ty150:TY:=⟨Tryz.t150,Tryz.t150.desc,[]⟩
theorem ok150:TYok 150 ty150:=⟨by kernel_rfl,by kernel_rfl,.inl rfl⟩
noncomputable abbrev ty151:TY:=⟨Tryz.t151,Tryz.t151.desc,[]⟩
theorem ok151:TYok 151 ty151:=⟨by kernel_rfl,by kernel_rfl,.inl rfl⟩
noncomputable abbrev ty152:TY:=⟨Tryz.t152,Tryz.t152.desc,[]⟩
theorem ok152:TYok 152 ty152:=⟨by kernel_rfl,by kernel_rfl,.inl rfl⟩
noncomputable abbrev ty153:TY:=⟨Tryz.t153,Tryz.t153.desc,[]⟩
theorem ok153:TYok 153 ty153:=⟨by kernel_rfl,by kernel_rfl,.inl rfl⟩
noncomputable abbrev ty154:TY:=⟨Tryz.t154,Tryz.t154.desc,[]⟩
theorem ok154:TYok 154 ty154:=⟨by kernel_rfl,by kernel_rfl,.inl rfl⟩
noncomputable abbrev ty155:TY:=⟨Tryz.t155,Tryz.t155.desc,[]⟩
theorem ok155:TYok 155 ty155:=⟨by kernel_rfl,by kernel_rfl,.inl rfl⟩
noncomputable abbrev ty156:TY:=⟨Tryz.t156,Tryz.t156.desc,[]⟩
theorem ok156:TYok 156 ty156:=⟨by kernel_rfl,by kernel_rfl,.inl rfl⟩
noncomputable abbrev ty157:TY:=⟨Tryz.t157,Tryz.t156.desc,[]⟩
theorem ok157:TYok 157 ty157:=⟨by kernel_rfl,by kernel_rfl,.inl rfl⟩
noncomputable abbrev ty158:TY:=⟨Tryz.t158,Tryz.t158.desc,[]⟩
theorem ok158:TYok 158 ty158:=⟨by kernel_rfl,by kernel_rfl,.inl rfl⟩
noncomputable abbrev ty159:TY:=⟨Tryz.t159,Tryz.t159.desc,[.int .i64,.str,.int .i64]⟩
theorem ok159:TYok 159 ty159:=⟨by kernel_rfl,by kernel_rfl,.inr ⟨by kernel_rfl,eqt159 9998⟩⟩
noncomputable abbrev ty160:TY:=⟨Tryz.t160,Tryz.t159.desc,[.int .i64,.str,.int .i64]⟩
theorem ok160:TYok 160 ty160:=⟨by kernel_rfl,by kernel_rfl,.inr ⟨by kernel_rfl,eqt160 9998⟩⟩
noncomputable abbrev ty161:TY:=⟨Tryz.t161,Tryz.t161.desc,[]⟩
theorem ok161:TYok 161 ty161:=⟨by kernel_rfl,by kernel_rfl,.inl rfl⟩
noncomputable abbrev ty162:TY:=⟨Tryz.t162,Tryz.t162.desc,[]⟩
theorem ok162:TYok 162 ty162:=⟨by kernel_rfl,by kernel_rfl,.inl rfl⟩
noncomputable abbrev ty163:TY:=⟨Tryz.t163,Tryz.t163.desc,[]⟩
theorem ok163:TYok 163 ty163:=⟨by kernel_rfl,by kernel_rfl,.inl rfl⟩
noncomputable abbrev ty164:TY:=⟨Tryz.t164,Tryz.t164.desc,[]⟩
theorem ok164:TYok 164 ty164:=⟨by kernel_rfl,by kernel_rfl,.inl rfl⟩
noncomputable abbrev ty165:TY:=⟨Tryz.t165,Tryz.t165.desc,[]⟩
theorem ok165:TYok 165 ty165:=⟨by kernel_rfl,by kernel_rfl,.inl rfl⟩
noncomputable abbrev ty166:TY:=⟨Tryz.t166,Tryz.t166.desc,[]⟩
theorem ok166:TYok 166 ty166:=⟨by kernel_rfl,by kernel_rfl,.inl rfl⟩
noncomputable abbrev ty167:TY:=⟨Tryz.t167,Tryz.t167.desc,[]⟩
theorem ok167:TYok 167 ty167:=⟨by kernel_rfl,by kernel_rfl,.inl rfl⟩
noncomputable abbrev ty168:TY:=⟨Tryz.t168,Tryz.t168.desc,[]⟩
theorem ok168:TYok 168 ty168:=⟨by kernel_rfl,by kernel_rfl,.inl rfl⟩
noncomputable abbrev ty169:TY:=⟨Tryz.t169,Tryz.t169.desc,[]⟩
theorem ok169:TYok 169 ty169:=⟨by kernel_rfl,by kernel_rfl,.inl rfl⟩
noncomputable abbrev ty170:TY:=⟨Tryz.t170,Tryz.t170.desc,[]⟩
theorem ok170:TYok 170 ty170:=⟨by kernel_rfl,by kernel_rfl,.inl rfl⟩
noncomputable abbrev ty171:TY:=⟨Tryz.t171,Tryz.t171.desc,[]⟩
theorem ok171:TYok 171 ty171:=⟨by kernel_rfl,by kernel_rfl,.inl rfl⟩
noncomputable abbrev ty172:TY:=⟨Tryz.t172,Tryz.t172.desc,[]⟩
theorem ok172:TYok 172 ty172:=⟨by kernel_rfl,by kernel_rfl,.inl rfl⟩
noncomputable abbrev ty173:TY:=⟨Tryz.t173,Tryz.t173.desc,[]⟩
theorem ok173:TYok 173 ty173:=⟨by kernel_rfl,by kernel_rfl,.inl rfl⟩
noncomputable abbrev ty174:TY:=⟨Tryz.t174,Tryz.t174.desc,[]⟩
theorem ok174:TYok 174 ty174:=⟨by kernel_rfl,by kernel_rfl,.inl rfl⟩
noncomputable abbrev ty175:TY:=⟨Tryz.t175,Tryz.t175.desc,[]⟩
theorem ok175:TYok 175 ty175:=⟨by kernel_rfl,by kernel_rfl,.inl rfl⟩
noncomputable abbrev ty176:TY:=⟨Tryz.t176,Tryz.t176.desc,[]⟩
theorem ok176:TYok 176 ty176:=⟨by kernel_rfl,by kernel_rfl,.inl rfl⟩
noncomputable abbrev ty177:TY:=⟨Tryz.t177,Tryz.t177.desc,[]⟩
theorem ok177:TYok 177 ty177:=⟨by kernel_rfl,by kernel_rfl,.inl rfl⟩
noncomputable abbrev ty178:TY:=⟨Tryz.t178,Tryz.t178.desc,[]⟩
theorem ok178:TYok 178 ty178:=⟨by kernel_rfl,by kernel_rfl,.inl rfl⟩
noncomputable abbrev ty179:TY:=⟨Tryz.t179,Tryz.t179.desc,[]⟩
theorem ok179:TYok 179 ty179:=⟨by kernel_rfl,by kernel_rfl,.inl rfl⟩
noncomputable abbrev ty180:TY:=⟨Tryz.t180,Tryz.t180.desc,[]⟩
theorem ok180:TYok 180 ty180:=⟨by kernel_rfl,by kernel_rfl,.inl rfl⟩
noncomputable abbrev ty181:TY:=⟨Tryz.t181,Tryz.t181.desc,[]⟩
theorem ok181:TYok 181 ty181:=⟨by kernel_rfl,by kernel_rfl,.inl rfl⟩
noncomputable abbrev ty182:TY:=⟨Tryz.t182,Tryz.t182.desc,[]⟩
theorem ok182:TYok 182 ty182:=⟨by kernel_rfl,by kernel_rfl,.inl rfl⟩
noncomputable abbrev ty183:TY:=⟨Tryz.t183,Tryz.t183.desc,[]⟩
theorem ok183:TYok 183 ty183:=⟨by kernel_rfl,by kernel_rfl,.inl rfl⟩
noncomputable abbrev ty184:TY:=⟨Tryz.t184,Tryz.t184.desc,[]⟩
theorem ok184:TYok 184 ty184:=⟨by kernel_rfl,by kernel_rfl,.inl rfl⟩
noncomputable abbrev ty185:TY:=⟨Tryz.t185,Tryz.t185.desc,[]⟩
theorem ok185:TYok 185 ty185:=⟨by kernel_rfl,by kernel_rfl,.inl rfl⟩
noncomputable abbrev ty186:TY:=⟨Tryz.t186,Tryz.t186.desc,[]⟩
theorem ok186:TYok 186 ty186:=⟨by kernel_rfl,by kernel_rfl,.inl rfl⟩
noncomputable abbrev ty187:TY:=⟨Tryz.t187,Tryz.t187.desc,[]⟩
theorem ok187:TYok 187 ty187:=⟨by kernel_rfl,by kernel_rfl,.inl rfl⟩
noncomputable abbrev ty188:TY:=⟨Tryz.t188,Tryz.t188.desc,[]⟩
theorem ok188:TYok 188 ty188:=⟨by kernel_rfl,by kernel_rfl,.inl rfl⟩
noncomputable abbrev ty189:TY:=⟨Tryz.t189,Tryz.t189.desc,[]⟩
theorem ok189:TYok 189 ty189:=⟨by kernel_rfl,by kernel_rfl,.inl rfl⟩
noncomputable abbrev ty190:TY:=⟨Tryz.t190,Tryz.t190.desc,[]⟩
theorem ok190:TYok 190 ty190:=⟨by kernel_rfl,by kernel_rfl,.inl rfl⟩
noncomputable abbrev ty191:TY:=⟨Tryz.t191,Tryz.t191.desc,[]⟩
theorem ok191:TYok 191 ty191:=⟨by kernel_rfl,by kernel_rfl,.inl rfl⟩
noncomputable abbrev ty192:TY:=⟨Tryz.t192,Tryz.t192.desc,[]⟩
theorem ok192:TYok 192 ty192:=⟨by kernel_rfl,by kernel_rfl,.inl rfl⟩
noncomputable abbrev ty193:TY:=⟨Tryz.t193,Tryz.t193.desc,[]⟩
theorem ok193:TYok 193 ty193:=⟨by kernel_rfl,by kernel_rfl,.inl rfl⟩
noncomputable abbrev ty194:TY:=⟨Tryz.t194,Tryz.t194.desc,[]⟩
theorem ok194:TYok 194 ty194:=⟨by kernel_rfl,by kernel_rfl,.inl rfl⟩
noncomputable abbrev ty195:TY:=⟨Tryz.t195,Tryz.t195.desc,[]⟩
theorem ok195:TYok 195 ty195:=⟨by kernel_rfl,by kernel_rfl,.inl rfl⟩
noncomputable abbrev ty196:TY:=⟨Tryz.t196,Tryz.t196.desc,[]⟩
theorem ok196:TYok 196 ty196:=⟨by kernel_rfl,by kernel_rfl,.inl rfl⟩
noncomputable abbrev ty197:TY:=⟨Tryz.t197,Tryz.t197.desc,[]⟩
theorem ok197:TYok 197 ty197:=⟨by kernel_rfl,by kernel_rfl,.inl rfl⟩
noncomputable abbrev ty198:TY:=⟨Tryz.t198,Tryz.t198.desc,[]⟩
theorem ok198:TYok 198 ty198:=⟨by kernel_rfl,by kernel_rfl,.inl rfl⟩
noncomputable abbrev ty199:TY:=⟨Tryz.t199,Tryz.t199.desc,[]⟩
theorem ok199:TYok 199 ty199:=⟨by kernel_rfl,by kernel_rfl,.inl rfl⟩
noncomputable abbrev ty200:TY:=⟨Tryz.t200,Tryz.t200.desc,[]⟩
theorem ok200:TYok 200 ty200:=⟨by kernel_rfl,by kernel_rfl,.inl rfl⟩
noncomputable abbrev ty201:TY:=⟨Tryz.t201,Tryz.t201.desc,[]⟩
theorem ok201:TYok 201 ty201:=⟨by kernel_rfl,by kernel_rfl,.inl rfl⟩
noncomputable abbrev ty202:TY:=⟨Tryz.t202,Tryz.t202.desc,[]⟩
theorem ok202:TYok 202 ty202:=⟨by kernel_rfl,by kernel_rfl,.inl rfl⟩
noncomputable abbrev ty203:TY:=⟨Tryz.t203,Tryz.t203.desc,[]⟩
theorem ok203:TYok 203 ty203:=⟨by kernel_rfl,by kernel_rfl,.inl rfl⟩
noncomputable abbrev ty204:TY:=⟨Tryz.t204,Tryz.t204.desc,[]⟩
theorem ok204:TYok 204 ty204:=⟨by kernel_rfl,by kernel_rfl,.inl rfl⟩
noncomputable abbrev ty205:TY:=⟨Tryz.t205,Tryz.t205.desc,[]⟩
theorem ok205:TYok 205 ty205:=⟨by kernel_rfl,by kernel_rfl,.inl rfl⟩
noncomputable abbrev ty206:TY:=⟨Tryz.t206,Tryz.t206.desc,[]⟩
theorem ok206:TYok 206 ty206:=⟨by kernel_rfl,by kernel_rfl,.inl rfl⟩
noncomputable abbrev ty207:TY:=⟨Tryz.t207,Tryz.t207.desc,[]⟩
theorem ok207:TYok 207 ty207:=⟨by kernel_rfl,by kernel_rfl,.inl rfl⟩
noncomputable abbrev ty208:TY:=⟨Tryz.t208,Tryz.t208.desc,[]⟩
theorem ok208:TYok 208 ty208:=⟨by kernel_rfl,by kernel_rfl,.inl rfl⟩
noncomputable abbrev ty209:TY:=⟨Tryz.t209,Tryz.t209.desc,[]⟩
theorem ok209:TYok 209 ty209:=⟨by kernel_rfl,by kernel_rfl,.inl rfl⟩
noncomputable abbrev ty210:TY:=⟨Tryz.t210,Tryz.t210.desc,[]⟩
theorem ok210:TYok 210 ty210:=⟨by kernel_rfl,by kernel_rfl,.inl rfl⟩
noncomputable abbrev ty211:TY:=⟨Tryz.t211,Tryz.t211.desc,[]⟩
theorem ok211:TYok 211 ty211:=⟨by kernel_rfl,by kernel_rfl,.inl rfl⟩
noncomputable abbrev ty212:TY:=⟨Tryz.t212,Tryz.t212.desc,[]⟩
theorem ok212:TYok 212 ty212:=⟨by kernel_rfl,by kernel_rfl,.inl rfl⟩
noncomputable abbrev ty213:TY:=⟨Tryz.t213,Tryz.t213.desc,[]⟩
theorem ok213:TYok 213 ty213:=⟨by kernel_rfl,by kernel_rfl,.inl rfl⟩
noncomputable abbrev ty214:TY:=⟨Tryz.t214,Tryz.t214.desc,[]⟩
theorem ok214:TYok 214 ty214:=⟨by kernel_rfl,by kernel_rfl,.inl rfl⟩
noncomputable abbrev ty215:TY:=⟨Tryz.t215,Tryz.t215.desc,[]⟩
theorem ok215:TYok 215 ty215:=⟨by kernel_rfl,by kernel_rfl,.inl rfl⟩
noncomputable abbrev ty216:TY:=⟨Tryz.t216,Tryz.t216.desc,[]⟩
theorem ok216:TYok 216 ty216:=⟨by kernel_rfl,by kernel_rfl,.inl rfl⟩
noncomputable abbrev ty217:TY:=⟨Tryz.t217,Tryz.t217.desc,[]⟩
theorem ok217:TYok 217 ty217:=⟨by kernel_rfl,by kernel_rfl,.inl rfl⟩
noncomputable abbrev ty218:TY:=⟨Tryz.t218,Tryz.t218.desc,[]⟩
theorem ok218:TYok 218 ty218:=⟨by kernel_rfl,by kernel_rfl,.inl rfl⟩
noncomputable abbrev ty219:TY:=⟨Tryz.t219,Tryz.t219.desc,[]⟩
theorem ok219:TYok 219 ty219:=⟨by kernel_rfl,by kernel_rfl,.inl rfl⟩
noncomputable abbrev ty220:TY:=⟨Tryz.t220,Tryz.t220.desc,[]⟩
theorem ok220:TYok 220 ty220:=⟨by kernel_rfl,by kernel_rfl,.inl rfl⟩
noncomputable abbrev ty221:TY:=⟨Tryz.t221,Tryz.t221.desc,[]⟩
theorem ok221:TYok 221 ty221:=⟨by kernel_rfl,by kernel_rfl,.inl rfl⟩
noncomputable abbrev ty222:TY:=⟨Tryz.t222,Tryz.t222.desc,[]⟩
theorem ok222:TYok 222 ty222:=⟨by kernel_rfl,by kernel_rfl,.inl rfl⟩
noncomputable abbrev ty223:TY:=⟨Tryz.t223,Tryz.t223.desc,[]⟩
theorem ok223:TYok 223 ty223:=⟨by kernel_rfl,by kernel_rfl,.inl rfl⟩
noncomputable abbrev ty224:TY:=⟨Tryz.t224,Tryz.t224.desc,[]⟩
theorem ok224:TYok 224 ty224:=⟨by kernel_rfl,by kernel_rfl,.inl rfl⟩
noncomputable abbrev ty225:TY:=⟨Tryz.t225,Tryz.t225.desc,[]⟩
theorem ok225:TYok 225 ty225:=⟨by kernel_rfl,by kernel_rfl,.inl rfl⟩
noncomputable abbrev ty226:TY:=⟨Tryz.t226,Tryz.t226.desc,[]⟩
theorem ok226:TYok 226 ty226:=⟨by kernel_rfl,by kernel_rfl,.inl rfl⟩
noncomputable abbrev ty227:TY:=⟨Tryz.t227,Tryz.t3.desc,[]⟩
theorem ok227:TYok 227 ty227:=⟨by kernel_rfl,by kernel_rfl,.inl rfl⟩
noncomputable abbrev ty228:TY:=⟨Tryz.t228,Tryz.t228.desc,[]⟩
theorem ok228:TYok 228 ty228:=⟨by kernel_rfl,by kernel_rfl,.inl rfl⟩
noncomputable abbrev ty229:TY:=⟨Tryz.t229,Tryz.t229.desc,[]⟩
theorem ok229:TYok 229 ty229:=⟨by kernel_rfl,by kernel_rfl,.inl rfl⟩
noncomputable abbrev ty230:TY:=⟨Tryz.t230,Tryz.t230.desc,[]⟩
theorem ok230:TYok 230 ty230:=⟨by kernel_rfl,by kernel_rfl,.inl rfl⟩
noncomputable abbrev ty231:TY:=⟨Tryz.t231,Tryz.t231.desc,[]⟩
theorem ok231:TYok 231 ty231:=⟨by kernel_rfl,by kernel_rfl,.inl rfl⟩
noncomputable abbrev ty232:TY:=⟨Tryz.t232,Tryz.t232.desc,[]⟩
theorem ok232:TYok 232 ty232:=⟨by kernel_rfl,by kernel_rfl,.inl rfl⟩
noncomputable abbrev ty233:TY:=⟨Tryz.t233,Tryz.t233.desc,[]⟩
theorem ok233:TYok 233 ty233:=⟨by kernel_rfl,by kernel_rfl,.inl rfl⟩
noncomputable abbrev ty234:TY:=⟨Tryz.t234,Tryz.t234.desc,[]⟩
theorem ok234:TYok 234 ty234:=⟨by kernel_rfl,by kernel_rfl,.inl rfl⟩
noncomputable abbrev ty235:TY:=⟨Tryz.t235,Tryz.t235.desc,[]⟩
theorem ok235:TYok 235 ty235:=⟨by kernel_rfl,by kernel_rfl,.inl rfl⟩
noncomputable abbrev ty236:TY:=⟨Tryz.t236,Tryz.t236.desc,[]⟩
theorem ok236:TYok 236 ty236:=⟨by kernel_rfl,by kernel_rfl,.inl rfl⟩
noncomputable abbrev ty237:TY:=⟨Tryz.t237,Tryz.t237.desc,[]⟩
theorem ok237:TYok 237 ty237:=⟨by kernel_rfl,by kernel_rfl,.inl rfl⟩
noncomputable abbrev ty238:TY:=⟨Tryz.t238,Tryz.t238.desc,[]⟩
theorem ok238:TYok 238 ty238:=⟨by kernel_rfl,by kernel_rfl,.inl rfl⟩
noncomputable abbrev ty239:TY:=⟨Tryz.t239,Tryz.t239.desc,[]⟩
theorem ok239:TYok 239 ty239:=⟨by kernel_rfl,by kernel_rfl,.inl rfl⟩
noncomputable abbrev ty240:TY:=⟨Tryz.t240,Tryz.t240.desc,[]⟩
theorem ok240:TYok 240 ty240:=⟨by kernel_rfl,by kernel_rfl,.inl rfl⟩
noncomputable abbrev ty241:TY:=⟨Tryz.t241,Tryz.t241.desc,[]⟩
theorem ok241:TYok 241 ty241:=⟨by kernel_rfl,by kernel_rfl,.inl rfl⟩
noncomputable abbrev ty242:TY:=⟨Tryz.t242,Tryz.t242.desc,[]⟩
theorem ok242:TYok 242 ty242:=⟨by kernel_rfl,by kernel_rfl,.inl rfl⟩
noncomputable abbrev ty243:TY:=⟨Tryz.t243,Tryz.t243.desc,[]⟩
theorem ok243:TYok 243 ty243:=⟨by kernel_rfl,by kernel_rfl,.inl rfl⟩
noncomputable abbrev ty244:TY:=⟨Tryz.t244,Tryz.t244.desc,[]⟩
theorem ok244:TYok 244 ty244:=⟨by kernel_rfl,by kernel_rfl,.inl rfl⟩
noncomputable abbrev ty245:TY:=⟨Tryz.t245,Tryz.t245.desc,[]⟩
theorem ok245:TYok 245 ty245:=⟨by kernel_rfl,by kernel_rfl,.inl rfl⟩
noncomputable abbrev ty246:TY:=⟨Tryz.t246,Tryz.t246.desc,[]⟩
theorem ok246:TYok 246 ty246:=⟨by kernel_rfl,by kernel_rfl,.inl rfl⟩
noncomputable abbrev ty247:TY:=⟨Tryz.t247,Tryz.t247.desc,[]⟩
theorem ok247:TYok 247 ty247:=⟨by kernel_rfl,by kernel_rfl,.inl rfl⟩
noncomputable abbrev ty248:TY:=⟨Tryz.t248,Tryz.t248.desc,[]⟩
theorem ok248:TYok 248 ty248:=⟨by kernel_rfl,by kernel_rfl,.inl rfl⟩
noncomputable abbrev ty249:TY:=⟨Tryz.t249,Tryz.t249.desc,[]⟩
theorem ok249:TYok 249 ty249:=⟨by kernel_rfl,by kernel_rfl,.inl rfl⟩
noncomputable abbrev ty250:TY:=⟨Tryz.t250,Tryz.t250.desc,[]⟩
theorem ok250:TYok 250 ty250:=⟨by kernel_rfl,by kernel_rfl,.inl rfl⟩
noncomputable abbrev ty251:TY:=⟨Tryz.t251,Tryz.t251.desc,[]⟩
theorem ok251:TYok 251 ty251:=⟨by kernel_rfl,by kernel_rfl,.inl rfl⟩
noncomputable abbrev ty252:TY:=⟨Tryz.t252,Tryz.t252.desc,[]⟩
theorem ok252:TYok 252 ty252:=⟨by kernel_rfl,by kernel_rfl,.inl rfl⟩
noncomputable abbrev ty253:TY:=⟨Tryz.t253,Tryz.t253.desc,[]⟩
theorem ok253:TYok 253 ty253:=⟨by kernel_rfl,by kernel_rfl,.inl rfl⟩
noncomputable abbrev ty254:TY:=⟨Tryz.t254,Tryz.t254.desc,[]⟩
theorem ok254:TYok 254 ty254:=⟨by kernel_rfl,by kernel_rfl,.inl rfl⟩
noncomputable abbrev ty255:TY:=⟨Tryz.t255,Tryz.t255.desc,[]⟩
theorem ok255:TYok 255 ty255:=⟨by kernel_rfl,by kernel_rfl,.inl rfl⟩
noncomputable abbrev ty256:TY:=⟨Tryz.t256,Tryz.t256.desc,[]⟩
theorem ok256:TYok 256 ty256:=⟨by kernel_rfl,by kernel_rfl,.inl rfl⟩
noncomputable abbrev ty257:TY:=⟨Tryz.t257,Tryz.t257.desc,[]⟩
theorem ok257:TYok 257 ty257:=⟨by kernel_rfl,by kernel_rfl,.inl rfl⟩
noncomputable abbrev ty258:TY:=⟨Tryz.t258,Tryz.t258.desc,[]⟩
theorem ok258:TYok 258 ty258:=⟨by kernel_rfl,by kernel_rfl,.inl rfl⟩
noncomputable abbrev ty259:TY:=⟨Tryz.t259,Tryz.t259.desc,[]⟩
theorem ok259:TYok 259 ty259:=⟨by kernel_rfl,by kernel_rfl,.inl rfl⟩
noncomputable abbrev ty260:TY:=⟨Tryz.t260,Tryz.t260.desc,[]⟩
theorem ok260:TYok 260 ty260:=⟨by kernel_rfl,by kernel_rfl,.inl rfl⟩
noncomputable abbrev ty261:TY:=⟨Tryz.t261,Tryz.t261.desc,[]⟩
theorem ok261:TYok 261 ty261:=⟨by kernel_rfl,by kernel_rfl,.inl rfl⟩
noncomputable abbrev ty262:TY:=⟨Tryz.t262,Tryz.t262.desc,[]⟩
theorem ok262:TYok 262 ty262:=⟨by kernel_rfl,by kernel_rfl,.inl rfl⟩
noncomputable abbrev ty263:TY:=⟨Tryz.t263,Tryz.t263.desc,[]⟩
theorem ok263:TYok 263 ty263:=⟨by kernel_rfl,by kernel_rfl,.inl rfl⟩
noncomputable abbrev ty264:TY:=⟨Tryz.t264,Tryz.t264.desc,[]⟩
theorem ok264:TYok 264 ty264:=⟨by kernel_rfl,by kernel_rfl,.inl rfl⟩
noncomputable abbrev ty265:TY:=⟨Tryz.t265,Tryz.t265.desc,[]⟩
theorem ok265:TYok 265 ty265:=⟨by kernel_rfl,by kernel_rfl,.inl rfl⟩
noncomputable abbrev ty266:TY:=⟨Tryz.t266,Tryz.t266.desc,[]⟩
theorem ok266:TYok 266 ty266:=⟨by kernel_rfl,by kernel_rfl,.inl rfl⟩
noncomputable abbrev ty267:TY:=⟨Tryz.t267,Tryz.t124.desc,[]⟩
theorem ok267:TYok 267 ty267:=⟨by kernel_rfl,by kernel_rfl,.inl rfl⟩
noncomputable abbrev ty268:TY:=⟨Tryz.t268,Tryz.t268.desc,[]⟩
theorem ok268:TYok 268 ty268:=⟨by kernel_rfl,by kernel_rfl,.inl rfl⟩
noncomputable abbrev ty269:TY:=⟨Tryz.t269,Tryz.t269.desc,[]⟩
theorem ok269:TYok 269 ty269:=⟨by kernel_rfl,by kernel_rfl,.inl rfl⟩
noncomputable abbrev ty270:TY:=⟨Tryz.t270,Tryz.t270.desc,[]⟩
theorem ok270:TYok 270 ty270:=⟨by kernel_rfl,by kernel_rfl,.inl rfl⟩
noncomputable abbrev ty271:TY:=⟨Tryz.t271,Tryz.t271.desc,[]⟩
theorem ok271:TYok 271 ty271:=⟨by kernel_rfl,by kernel_rfl,.inl rfl⟩
noncomputable abbrev ty272:TY:=⟨Tryz.t272,Tryz.t272.desc,[]⟩
theorem ok272:TYok 272 ty272:=⟨by kernel_rfl,by kernel_rfl,.inl rfl⟩
noncomputable abbrev ty273:TY:=⟨Tryz.t273,Tryz.t273.desc,[]⟩
theorem ok273:TYok 273 ty273:=⟨by kernel_rfl,by kernel_rfl,.inl rfl⟩
noncomputable abbrev ty274:TY:=⟨Tryz.t274,Tryz.t274.desc,[]⟩
theorem ok274:TYok 274 ty274:=⟨by kernel_rfl,by kernel_rfl,.inl rfl⟩
noncomputable abbrev ty275:TY:=⟨Tryz.t275,Tryz.t275.desc,[]⟩
theorem ok275:TYok 275 ty275:=⟨by kernel_rfl,by kernel_rfl,.inl rfl⟩
noncomputable abbrev ty276:TY:=⟨Tryz.t276,Tryz.t276.desc,[]⟩
theorem ok276:TYok 276 ty276:=⟨by kernel_rfl,by kernel_rfl,.inl rfl⟩
noncomputable abbrev ty277:TY:=⟨Tryz.t277,Tryz.t277.desc,[]⟩
theorem ok277:TYok 277 ty277:=⟨by kernel_rfl,by kernel_rfl,.inl rfl⟩
noncomputable abbrev ty278:TY:=⟨Tryz.t278,Tryz.t278.desc,[]⟩
theorem ok278:TYok 278 ty278:=⟨by kernel_rfl,by kernel_rfl,.inl rfl⟩
noncomputable abbrev ty279:TY:=⟨Tryz.t279,Tryz.t279.desc,[]⟩
theorem ok279:TYok 279 ty279:=⟨by kernel_rfl,by kernel_rfl,.inl rfl⟩
noncomputable abbrev ty280:TY:=⟨Tryz.t280,Tryz.t280.desc,[]⟩
theorem ok280:TYok 280 ty280:=⟨by kernel_rfl,by kernel_rfl,.inl rfl⟩
noncomputable abbrev ty281:TY:=⟨Tryz.t281,Tryz.t281.desc,[]⟩
theorem ok281:TYok 281 ty281:=⟨by kernel_rfl,by kernel_rfl,.inl rfl⟩
noncomputable abbrev ty282:TY:=⟨Tryz.t282,Tryz.t282.desc,[]⟩
theorem ok282:TYok 282 ty282:=⟨by kernel_rfl,by kernel_rfl,.inl rfl⟩
noncomputable abbrev ty283:TY:=⟨Tryz.t283,Tryz.t283.desc,[]⟩
theorem ok283:TYok 283 ty283:=⟨by kernel_rfl,by kernel_rfl,.inl rfl⟩
noncomputable abbrev ty284:TY:=⟨Tryz.t284,Tryz.t284.desc,[]⟩
theorem ok284:TYok 284 ty284:=⟨by kernel_rfl,by kernel_rfl,.inl rfl⟩
noncomputable abbrev ty285:TY:=⟨Tryz.t285,Tryz.t285.desc,[]⟩
theorem ok285:TYok 285 ty285:=⟨by kernel_rfl,by kernel_rfl,.inl rfl⟩
noncomputable abbrev ty286:TY:=⟨Tryz.t286,Tryz.t286.desc,[]⟩
theorem ok286:TYok 286 ty286:=⟨by kernel_rfl,by kernel_rfl,.inl rfl⟩
noncomputable abbrev ty287:TY:=⟨Tryz.t287,Tryz.t287.desc,[]⟩
theorem ok287:TYok 287 ty287:=⟨by kernel_rfl,by kernel_rfl,.inl rfl⟩
noncomputable abbrev ty288:TY:=⟨Tryz.t288,Tryz.t288.desc,[]⟩
theorem ok288:TYok 288 ty288:=⟨by kernel_rfl,by kernel_rfl,.inl rfl⟩
noncomputable abbrev ty289:TY:=⟨Tryz.t289,Tryz.t289.desc,[]⟩
theorem ok289:TYok 289 ty289:=⟨by kernel_rfl,by kernel_rfl,.inl rfl⟩
noncomputable abbrev ty290:TY:=⟨Tryz.t290,Tryz.t290.desc,[]⟩
theorem ok290:TYok 290 ty290:=⟨by kernel_rfl,by kernel_rfl,.inl rfl⟩
noncomputable abbrev ty291:TY:=⟨Tryz.t291,Tryz.t291.desc,[]⟩
theorem ok291:TYok 291 ty291:=⟨by kernel_rfl,by kernel_rfl,.inl rfl⟩
noncomputable abbrev ty292:TY:=⟨Tryz.t292,Tryz.t292.desc,[]⟩
theorem ok292:TYok 292 ty292:=⟨by kernel_rfl,by kernel_rfl,.inl rfl⟩
noncomputable abbrev ty293:TY:=⟨Tryz.t293,Tryz.t293.desc,[]⟩
theorem ok293:TYok 293 ty293:=⟨by kernel_rfl,by kernel_rfl,.inl rfl⟩
noncomputable abbrev ty294:TY:=⟨Tryz.t294,Tryz.t294.desc,[]⟩
theorem ok294:TYok 294 ty294:=⟨by kernel_rfl,by kernel_rfl,.inl rfl⟩
noncomputable abbrev ty295:TY:=⟨Tryz.t295,Tryz.t294.desc,[]⟩
theorem ok295:TYok 295 ty295:=⟨by kernel_rfl,by kernel_rfl,.inl rfl⟩
noncomputable abbrev ty296:TY:=⟨Tryz.t296,Tryz.t296.desc,[]⟩
theorem ok296:TYok 296 ty296:=⟨by kernel_rfl,by kernel_rfl,.inl rfl⟩
noncomputable abbrev ty297:TY:=⟨Tryz.t297,Tryz.t297.desc,[]⟩
theorem ok297:TYok 297 ty297:=⟨by kernel_rfl,by kernel_rfl,.inl rfl⟩
noncomputable abbrev ty298:TY:=⟨Tryz.t298,Tryz.t297.desc,[]⟩
theorem ok298:TYok 298 ty298:=⟨by kernel_rfl,by kernel_rfl,.inl rfl⟩
noncomputable abbrev ty299:TY:=⟨Tryz.t299,Tryz.t299.desc,[]⟩
theorem ok299:TYok 299 ty299:=⟨by kernel_rfl,by kernel_rfl,.inl rfl⟩
noncomputable abbrev ty300:TY:=⟨Tryz.t300,Tryz.t5.desc,[]⟩
theorem ok300:TYok 300 ty300:=⟨by kernel_rfl,by kernel_rfl,.inl rfl⟩
noncomputable abbrev ty301:TY:=⟨Tryz.t301,Tryz.t5.desc,[]⟩
theorem ok301:TYok 301 ty301:=⟨by kernel_rfl,by kernel_rfl,.inl rfl⟩
noncomputable abbrev ty302:TY:=⟨Tryz.t302,Tryz.t302.desc,[]⟩
theorem ok302:TYok 302 ty302:=⟨by kernel_rfl,by kernel_rfl,.inl rfl⟩
noncomputable abbrev ty303:TY:=⟨Tryz.t303,Tryz.t303.desc,[]⟩
theorem ok303:TYok 303 ty303:=⟨by kernel_rfl,by kernel_rfl,.inl rfl⟩
noncomputable abbrev ty304:TY:=⟨Tryz.t304,Tryz.t21.desc,[]⟩
theorem ok304:TYok 304 ty304:=⟨by kernel_rfl,by kernel_rfl,.inl rfl⟩
noncomputable abbrev ty305:TY:=⟨Tryz.t305,Tryz.t21.desc,[]⟩
theorem ok305:TYok 305 ty305:=⟨by kernel_rfl,by kernel_rfl,.inl rfl⟩
noncomputable abbrev ty306:TY:=⟨Tryz.t306,Tryz.t306.desc,[]⟩
theorem ok306:TYok 306 ty306:=⟨by kernel_rfl,by kernel_rfl,.inl rfl⟩
noncomputable abbrev ty307:TY:=⟨Tryz.t307,Tryz.t306.desc,[]⟩
theorem ok307:TYok 307 ty307:=⟨by kernel_rfl,by kernel_rfl,.inl rfl⟩
noncomputable abbrev ty308:TY:=⟨Tryz.t308,Tryz.t308.desc,[]⟩
theorem ok308:TYok 308 ty308:=⟨by kernel_rfl,by kernel_rfl,.inl rfl⟩
noncomputable abbrev ty309:TY:=⟨Tryz.t309,Tryz.t309.desc,[.int .i64,.int .i64]⟩
theorem ok309:TYok 309 ty309:=⟨by kernel_rfl,by kernel_rfl,.inr ⟨by kernel_rfl,eqt309 9998⟩⟩
noncomputable abbrev ty310:TY:=⟨Tryz.t310,Tryz.t309.desc,[.int .i64,.int .i64]⟩
theorem ok310:TYok 310 ty310:=⟨by kernel_rfl,by kernel_rfl,.inr ⟨by kernel_rfl,eqt310 9998⟩⟩
noncomputable abbrev ty311:TY:=⟨Tryz.t311,Tryz.t311.desc,[]⟩
theorem ok311:TYok 311 ty311:=⟨by kernel_rfl,by kernel_rfl,.inl rfl⟩
noncomputable abbrev ty312:TY:=⟨Tryz.t312,Tryz.t312.desc,[]⟩
theorem ok312:TYok 312 ty312:=⟨by kernel_rfl,by kernel_rfl,.inl rfl⟩
noncomputable abbrev ty313:TY:=⟨Tryz.t313,Tryz.t313.desc,[]⟩
theorem ok313:TYok 313 ty313:=⟨by kernel_rfl,by kernel_rfl,.inl rfl⟩
noncomputable abbrev ty314:TY:=⟨Tryz.t314,Tryz.t314.desc,[]⟩
theorem ok314:TYok 314 ty314:=⟨by kernel_rfl,by kernel_rfl,.inl rfl⟩
noncomputable abbrev ty315:TY:=⟨Tryz.t315,Tryz.t315.desc,[]⟩
theorem ok315:TYok 315 ty315:=⟨by kernel_rfl,by kernel_rfl,.inl rfl⟩
noncomputable abbrev ty316:TY:=⟨Tryz.t316,Tryz.t316.desc,[]⟩
theorem ok316:TYok 316 ty316:=⟨by kernel_rfl,by kernel_rfl,.inl rfl⟩
noncomputable abbrev ty317:TY:=⟨Tryz.t317,Tryz.t317.desc,[]⟩
theorem ok317:TYok 317 ty317:=⟨by kernel_rfl,by kernel_rfl,.inl rfl⟩
noncomputable abbrev ty318:TY:=⟨Tryz.t318,Tryz.t318.desc,[]⟩
theorem ok318:TYok 318 ty318:=⟨by kernel_rfl,by kernel_rfl,.inl rfl⟩
noncomputable abbrev ty319:TY:=⟨Tryz.t319,Tryz.t319.desc,[]⟩
theorem ok319:TYok 319 ty319:=⟨by kernel_rfl,by kernel_rfl,.inl rfl⟩
noncomputable def tab:TT:=(.node (.node (.node (.node (.node (.node (.node (.node (.node .leaf none (.node .leaf (some ty256) .leaf)) none (.node .leaf (some ty128) .leaf)) none (.node .leaf (some ty64) (.node .leaf (some ty192) .leaf))) none (.node (.node (.node .leaf none (.node .leaf (some ty288) .leaf)) none (.node .leaf (some ty160) .leaf)) (some ty32) (.node .leaf (some ty96) (.node .leaf (some ty224) .leaf)))) none (.node (.node (.node (.node .leaf none (.node .leaf (some ty272) .leaf)) none (.node .leaf (some ty144) .leaf)) none (.node .leaf (some ty80) (.node .leaf (some ty208) .leaf))) (some ty16) (.node (.node (.node .leaf none (.node .leaf (some ty304) .leaf)) none (.node .leaf (some ty176) .leaf)) (some ty48) (.node .leaf (some ty112) (.node .leaf (some ty240) .leaf))))) none (.node (.node (.node (.node (.node .leaf none (.node .leaf (some ty264) .leaf)) none (.node .leaf (some ty136) .leaf)) none (.node .leaf (some ty72) (.node .leaf (some ty200) .leaf))) none (.node (.node (.node .leaf none (.node .leaf (some ty296) .leaf)) none (.node .leaf (some ty168) .leaf)) (some ty40) (.node .leaf (some ty104) (.node .leaf (some ty232) .leaf)))) (some ty8) (.node (.node (.node (.node .leaf none (.node .leaf (some ty280) .leaf)) none (.node .leaf (some ty152) .leaf)) none (.node .leaf (some ty88) (.node .leaf (some ty216) .leaf))) (some ty24) (.node (.node (.node .leaf none (.node .leaf (some ty312) .leaf)) none (.node .leaf (some ty184) .leaf)) (some ty56) (.node .leaf (some ty120) (.node .leaf (some ty248) .leaf)))))) none (.node (.node (.node (.node (.node (.node .leaf none (.node .leaf (some ty260) .leaf)) none (.node .leaf (some ty132) .leaf)) none (.node .leaf (some ty68) (.node .leaf (some ty196) .leaf))) none (.node (.node (.node .leaf none (.node .leaf (some ty292) .leaf)) none (.node .leaf (some ty164) .leaf)) (some ty36) (.node .leaf (some ty100) (.node .leaf (some ty228) .leaf)))) none (.node (.node (.node (.node .leaf none (.node .leaf (some ty276) .leaf)) none (.node .leaf (some ty148) .leaf)) none (.node .leaf (some ty84) (.node .leaf (some ty212) .leaf))) (some ty20) (.node (.node (.node .leaf none (.node .leaf (some ty308) .leaf)) none (.node .leaf (some ty180) .leaf)) (some ty52) (.node .leaf (some ty116) (.node .leaf (some ty244) .leaf))))) (some ty4) (.node (.node (.node (.node (.node .leaf none (.node .leaf (some ty268) .leaf)) none (.node .leaf (some ty140) .leaf)) none (.node .leaf (some ty76) (.node .leaf (some ty204) .leaf))) none (.node (.node (.node .leaf none (.node .leaf (some ty300) .leaf)) none (.node .leaf (some ty172) .leaf)) (some ty44) (.node .leaf (some ty108) (.node .leaf (some ty236) .leaf)))) (some ty12) (.node (.node (.node (.node .leaf none (.node .leaf (some ty284) .leaf)) none (.node .leaf (some ty156) .leaf)) none (.node .leaf (some ty92) (.node .leaf (some ty220) .leaf))) (some ty28) (.node (.node (.node .leaf none (.node .leaf (some ty316) .leaf)) none (.node .leaf (some ty188) .leaf)) (some ty60) (.node .leaf (some ty124) (.node .leaf (some ty252) .leaf))))))) none (.node (.node (.node (.node (.node (.node (.node .leaf none (.node .leaf (some ty258) .leaf)) none (.node .leaf (some ty130) .leaf)) none (.node .leaf (some ty66) (.node .leaf (some ty194) .leaf))) none (.node (.node (.node .leaf none (.node .leaf (some ty290) .leaf)) none (.node .leaf (some ty162) .leaf)) (some ty34) (.node .leaf (some ty98) (.node .leaf (some ty226) .leaf)))) none (.node (.node (.node (.node .leaf none (.node .leaf (some ty274) .leaf)) none (.node .leaf (some ty146) .leaf)) none (.node .leaf (some ty82) (.node .leaf (some ty210) .leaf))) (some ty18) (.node (.node (.node .leaf none (.node .leaf (some ty306) .leaf)) none (.node .leaf (some ty178) .leaf)) (some ty50) (.node .leaf (some ty114) (.node .leaf (some ty242) .leaf))))) none (.node (.node (.node (.node (.node .leaf none (.node .leaf (some ty266) .leaf)) none (.node .leaf (some ty138) .leaf)) none (.node .leaf (some ty74) (.node .leaf (some ty202) .leaf))) none (.node (.node (.node .leaf none (.node .leaf (some ty298) .leaf)) none (.node .leaf (some ty170) .leaf)) (some ty42) (.node .leaf (some ty106) (.node .leaf (some ty234) .leaf)))) (some ty10) (.node (.node (.node (.node .leaf none (.node .leaf (some ty282) .leaf)) none (.node .leaf (some ty154) .leaf)) none (.node .leaf (some ty90) (.node .leaf (some ty218) .leaf))) (some ty26) (.node (.node (.node .leaf none (.node .leaf (some ty314) .leaf)) none (.node .leaf (some ty186) .leaf)) (some ty58) (.node .leaf (some ty122) (.node .leaf (some ty250) .leaf)))))) (some ty2) (.node (.node (.node (.node (.node (.node .leaf none (.node .leaf (some ty262) .leaf)) none (.node .leaf (some ty134) .leaf)) none (.node .leaf (some ty70) (.node .leaf (some ty198) .leaf))) none (.node (.node (.node .leaf none (.node .leaf (some ty294) .leaf)) none (.node .leaf (some ty166) .leaf)) (some ty38) (.node .leaf (some ty102) (.node .leaf (some ty230) .leaf)))) none (.node (.node (.node (.node .leaf none (.node .leaf (some ty278) .leaf)) none (.node .leaf (some ty150) .leaf)) none (.node .leaf (some ty86) (.node .leaf (some ty214) .leaf))) (some ty22) (.node (.node (.node .leaf none (.node .leaf (some ty310) .leaf)) none (.node .leaf (some ty182) .leaf)) (some ty54) (.node .leaf (some ty118) (.node .leaf (some ty246) .leaf))))) (some ty6) (.node (.node (.node (.node (.node .leaf none (.node .leaf (some ty270) .leaf)) none (.node .leaf (some ty142) .leaf)) none (.node .leaf (some ty78) (.node .leaf (some ty206) .leaf))) none (.node (.node (.node .leaf none (.node .leaf (some ty302) .leaf)) none (.node .leaf (some ty174) .leaf)) (some ty46) (.node .leaf (some ty110) (.node .leaf (some ty238) .leaf)))) (some ty14) (.node (.node (.node (.node .leaf none (.node .leaf (some ty286) .leaf)) none (.node .leaf (some ty158) .leaf)) none (.node .leaf (some ty94) (.node .leaf (some ty222) .leaf))) (some ty30) (.node (.node (.node .leaf none (.node .leaf (some ty318) .leaf)) none (.node .leaf (some ty190) .leaf)) (some ty62) (.node .leaf (some ty126) (.node .leaf (some ty254) .leaf)))))))) (some ty0) (.node (.node (.node (.node (.node (.node (.node (.node .leaf none (.node .leaf (some ty257) .leaf)) none (.node .leaf (some ty129) .leaf)) none (.node .leaf (some ty65) (.node .leaf (some ty193) .leaf))) none (.node (.node (.node .leaf none (.node .leaf (some ty289) .leaf)) none (.node .leaf (some ty161) .leaf)) (some ty33) (.node .leaf (some ty97) (.node .leaf (some ty225) .leaf)))) none (.node (.node (.node (.node .leaf none (.node .leaf (some ty273) .leaf)) none (.node .leaf (some ty145) .leaf)) none (.node .leaf (some ty81) (.node .leaf (some ty209) .leaf))) (some ty17) (.node (.node (.node .leaf none (.node .leaf (some ty305) .leaf)) none (.node .leaf (some ty177) .leaf)) (some ty49) (.node .leaf (some ty113) (.node .leaf (some ty241) .leaf))))) none (.node (.node (.node (.node (.node .leaf none (.node .leaf (some ty265) .leaf)) none (.node .leaf (some ty137) .leaf)) none (.node .leaf (some ty73) (.node .leaf (some ty201) .leaf))) none (.node (.node (.node .leaf none (.node .leaf (some ty297) .leaf)) none (.node .leaf (some ty169) .leaf)) (some ty41) (.node .leaf (some ty105) (.node .leaf (some ty233) .leaf)))) (some ty9) (.node (.node (.node (.node .leaf none (.node .leaf (some ty281) .leaf)) none (.node .leaf (some ty153) .leaf)) none (.node .leaf (some ty89) (.node .leaf (some ty217) .leaf))) (some ty25) (.node (.node (.node .leaf none (.node .leaf (some ty313) .leaf)) none (.node .leaf (some ty185) .leaf)) (some ty57) (.node .leaf (some ty121) (.node .leaf (some ty249) .leaf)))))) none (.node (.node (.node (.node (.node (.node .leaf none (.node .leaf (some ty261) .leaf)) none (.node .leaf (some ty133) .leaf)) none (.node .leaf (some ty69) (.node .leaf (some ty197) .leaf))) none (.node (.node (.node .leaf none (.node .leaf (some ty293) .leaf)) none (.node .leaf (some ty165) .leaf)) (some ty37) (.node .leaf (some ty101) (.node .leaf (some ty229) .leaf)))) none (.node (.node (.node (.node .leaf none (.node .leaf (some ty277) .leaf)) none (.node .leaf (some ty149) .leaf)) none (.node .leaf (some ty85) (.node .leaf (some ty213) .leaf))) (some ty21) (.node (.node (.node .leaf none (.node .leaf (some ty309) .leaf)) none (.node .leaf (some ty181) .leaf)) (some ty53) (.node .leaf (some ty117) (.node .leaf (some ty245) .leaf))))) (some ty5) (.node (.node (.node (.node (.node .leaf none (.node .leaf (some ty269) .leaf)) none (.node .leaf (some ty141) .leaf)) none (.node .leaf (some ty77) (.node .leaf (some ty205) .leaf))) none (.node (.node (.node .leaf none (.node .leaf (some ty301) .leaf)) none (.node .leaf (some ty173) .leaf)) (some ty45) (.node .leaf (some ty109) (.node .leaf (some ty237) .leaf)))) (some ty13) (.node (.node (.node (.node .leaf none (.node .leaf (some ty285) .leaf)) none (.node .leaf (some ty157) .leaf)) none (.node .leaf (some ty93) (.node .leaf (some ty221) .leaf))) (some ty29) (.node (.node (.node .leaf none (.node .leaf (some ty317) .leaf)) none (.node .leaf (some ty189) .leaf)) (some ty61) (.node .leaf (some ty125) (.node .leaf (some ty253) .leaf))))))) (some ty1) (.node (.node (.node (.node (.node (.node (.node .leaf none (.node .leaf (some ty259) .leaf)) none (.node .leaf (some ty131) .leaf)) none (.node .leaf (some ty67) (.node .leaf (some ty195) .leaf))) none (.node (.node (.node .leaf none (.node .leaf (some ty291) .leaf)) none (.node .leaf (some ty163) .leaf)) (some ty35) (.node .leaf (some ty99) (.node .leaf (some ty227) .leaf)))) none (.node (.node (.node (.node .leaf none (.node .leaf (some ty275) .leaf)) none (.node .leaf (some ty147) .leaf)) none (.node .leaf (some ty83) (.node .leaf (some ty211) .leaf))) (some ty19) (.node (.node (.node .leaf none (.node .leaf (some ty307) .leaf)) none (.node .leaf (some ty179) .leaf)) (some ty51) (.node .leaf (some ty115) (.node .leaf (some ty243) .leaf))))) none (.node (.node (.node (.node (.node .leaf none (.node .leaf (some ty267) .leaf)) none (.node .leaf (some ty139) .leaf)) none (.node .leaf (some ty75) (.node .leaf (some ty203) .leaf))) none (.node (.node (.node .leaf none (.node .leaf (some ty299) .leaf)) none (.node .leaf (some ty171) .leaf)) (some ty43) (.node .leaf (some ty107) (.node .leaf (some ty235) .leaf)))) (some ty11) (.node (.node (.node (.node .leaf none (.node .leaf (some ty283) .leaf)) none (.node .leaf (some ty155) .leaf)) none (.node .leaf (some ty91) (.node .leaf (some ty219) .leaf))) (some ty27) (.node (.node (.node .leaf none (.node .leaf (some ty315) .leaf)) none (.node .leaf (some ty187) .leaf)) (some ty59) (.node .leaf (some ty123) (.node .leaf (some ty251) .leaf)))))) (some ty3) (.node (.node (.node (.node (.node (.node .leaf none (.node .leaf (some ty263) .leaf)) none (.node .leaf (some ty135) .leaf)) none (.node .leaf (some ty71) (.node .leaf (some ty199) .leaf))) none (.node (.node (.node .leaf none (.node .leaf (some ty295) .leaf)) none (.node .leaf (some ty167) .leaf)) (some ty39) (.node .leaf (some ty103) (.node .leaf (some ty231) .leaf)))) none (.node (.node (.node (.node .leaf none (.node .leaf (some ty279) .leaf)) none (.node .leaf (some ty151) .leaf)) none (.node .leaf (some ty87) (.node .leaf (some ty215) .leaf))) (some ty23) (.node (.node (.node .leaf none (.node .leaf (some ty311) .leaf)) none (.node .leaf (some ty183) .leaf)) (some ty55) (.node .leaf (some ty119) (.node .leaf (some ty247) .leaf))))) (some ty7) (.node (.node (.node (.node (.node .leaf none (.node .leaf (some ty271) .leaf)) none (.node .leaf (some ty143) .leaf)) none (.node .leaf (some ty79) (.node .leaf (some ty207) .leaf))) none (.node (.node (.node .leaf none (.node .leaf (some ty303) .leaf)) none (.node .leaf (some ty175) .leaf)) (some ty47) (.node .leaf (some ty111) (.node .leaf (some ty239) .leaf)))) (some ty15) (.node (.node (.node (.node .leaf none (.node .leaf (some ty287) .leaf)) none (.node .leaf (some ty159) .leaf)) none (.node .leaf (some ty95) (.node .leaf (some ty223) .leaf))) (some ty31) (.node (.node (.node .leaf none (.node .leaf (some ty319) .leaf)) none (.node .leaf (some ty191) .leaf)) (some ty63) (.node .leaf (some ty127) (.node .leaf (some ty255) .leaf)))))))))
noncomputable def T:Tab:=fun t=>TT.get 20 tab t
theorem T_ok:T.ok Tryz.prog:=fun _ _ h=>by
 have:=TT.all_get (p:=TYok) (m:=1) (b:=0) (t:=tab) ⟨ok0,⟨trivial,⟨trivial,⟨trivial,⟨trivial,⟨trivial,⟨trivial,⟨trivial,⟨trivial,trivial,⟨ok256,trivial,trivial⟩⟩,⟨ok128,trivial,trivial⟩⟩,⟨ok64,trivial,⟨ok192,trivial,trivial⟩⟩⟩,⟨ok32,⟨trivial,⟨trivial,trivial,⟨ok288,trivial,trivial⟩⟩,⟨ok160,trivial,trivial⟩⟩,⟨ok96,trivial,⟨ok224,trivial,trivial⟩⟩⟩⟩,⟨ok16,⟨trivial,⟨trivial,⟨trivial,trivial,⟨ok272,trivial,trivial⟩⟩,⟨ok144,trivial,trivial⟩⟩,⟨ok80,trivial,⟨ok208,trivial,trivial⟩⟩⟩,⟨ok48,⟨trivial,⟨trivial,trivial,⟨ok304,trivial,trivial⟩⟩,⟨ok176,trivial,trivial⟩⟩,⟨ok112,trivial,⟨ok240,trivial,trivial⟩⟩⟩⟩⟩,⟨ok8,⟨trivial,⟨trivial,⟨trivial,⟨trivial,trivial,⟨ok264,trivial,trivial⟩⟩,⟨ok136,trivial,trivial⟩⟩,⟨ok72,trivial,⟨ok200,trivial,trivial⟩⟩⟩,⟨ok40,⟨trivial,⟨trivial,trivial,⟨ok296,trivial,trivial⟩⟩,⟨ok168,trivial,trivial⟩⟩,⟨ok104,trivial,⟨ok232,trivial,trivial⟩⟩⟩⟩,⟨ok24,⟨trivial,⟨trivial,⟨trivial,trivial,⟨ok280,trivial,trivial⟩⟩,⟨ok152,trivial,trivial⟩⟩,⟨ok88,trivial,⟨ok216,trivial,trivial⟩⟩⟩,⟨ok56,⟨trivial,⟨trivial,trivial,⟨ok312,trivial,trivial⟩⟩,⟨ok184,trivial,trivial⟩⟩,⟨ok120,trivial,⟨ok248,trivial,trivial⟩⟩⟩⟩⟩⟩,⟨ok4,⟨trivial,⟨trivial,⟨trivial,⟨trivial,⟨trivial,trivial,⟨ok260,trivial,trivial⟩⟩,⟨ok132,trivial,trivial⟩⟩,⟨ok68,trivial,⟨ok196,trivial,trivial⟩⟩⟩,⟨ok36,⟨trivial,⟨trivial,trivial,⟨ok292,trivial,trivial⟩⟩,⟨ok164,trivial,trivial⟩⟩,⟨ok100,trivial,⟨ok228,trivial,trivial⟩⟩⟩⟩,⟨ok20,⟨trivial,⟨trivial,⟨trivial,trivial,⟨ok276,trivial,trivial⟩⟩,⟨ok148,trivial,trivial⟩⟩,⟨ok84,trivial,⟨ok212,trivial,trivial⟩⟩⟩,⟨ok52,⟨trivial,⟨trivial,trivial,⟨ok308,trivial,trivial⟩⟩,⟨ok180,trivial,trivial⟩⟩,⟨ok116,trivial,⟨ok244,trivial,trivial⟩⟩⟩⟩⟩,⟨ok12,⟨trivial,⟨trivial,⟨trivial,⟨trivial,trivial,⟨ok268,trivial,trivial⟩⟩,⟨ok140,trivial,trivial⟩⟩,⟨ok76,trivial,⟨ok204,trivial,trivial⟩⟩⟩,⟨ok44,⟨trivial,⟨trivial,trivial,⟨ok300,trivial,trivial⟩⟩,⟨ok172,trivial,trivial⟩⟩,⟨ok108,trivial,⟨ok236,trivial,trivial⟩⟩⟩⟩,⟨ok28,⟨trivial,⟨trivial,⟨trivial,trivial,⟨ok284,trivial,trivial⟩⟩,⟨ok156,trivial,trivial⟩⟩,⟨ok92,trivial,⟨ok220,trivial,trivial⟩⟩⟩,⟨ok60,⟨trivial,⟨trivial,trivial,⟨ok316,trivial,trivial⟩⟩,⟨ok188,trivial,trivial⟩⟩,⟨ok124,trivial,⟨ok252,trivial,trivial⟩⟩⟩⟩⟩⟩⟩,⟨ok2,⟨trivial,⟨trivial,⟨trivial,⟨trivial,⟨trivial,⟨trivial,trivial,⟨ok258,trivial,trivial⟩⟩,⟨ok130,trivial,trivial⟩⟩,⟨ok66,trivial,⟨ok194,trivial,trivial⟩⟩⟩,⟨ok34,⟨trivial,⟨trivial,trivial,⟨ok290,trivial,trivial⟩⟩,⟨ok162,trivial,trivial⟩⟩,⟨ok98,trivial,⟨ok226,trivial,trivial⟩⟩⟩⟩,⟨ok18,⟨trivial,⟨trivial,⟨trivial,trivial,⟨ok274,trivial,trivial⟩⟩,⟨ok146,trivial,trivial⟩⟩,⟨ok82,trivial,⟨ok210,trivial,trivial⟩⟩⟩,⟨ok50,⟨trivial,⟨trivial,trivial,⟨ok306,trivial,trivial⟩⟩,⟨ok178,trivial,trivial⟩⟩,⟨ok114,trivial,⟨ok242,trivial,trivial⟩⟩⟩⟩⟩,⟨ok10,⟨trivial,⟨trivial,⟨trivial,⟨trivial,trivial,⟨ok266,trivial,trivial⟩⟩,⟨ok138,trivial,trivial⟩⟩,⟨ok74,trivial,⟨ok202,trivial,trivial⟩⟩⟩,⟨ok42,⟨trivial,⟨trivial,trivial,⟨ok298,trivial,trivial⟩⟩,⟨ok170,trivial,trivial⟩⟩,⟨ok106,trivial,⟨ok234,trivial,trivial⟩⟩⟩⟩,⟨ok26,⟨trivial,⟨trivial,⟨trivial,trivial,⟨ok282,trivial,trivial⟩⟩,⟨ok154,trivial,trivial⟩⟩,⟨ok90,trivial,⟨ok218,trivial,trivial⟩⟩⟩,⟨ok58,⟨trivial,⟨trivial,trivial,⟨ok314,trivial,trivial⟩⟩,⟨ok186,trivial,trivial⟩⟩,⟨ok122,trivial,⟨ok250,trivial,trivial⟩⟩⟩⟩⟩⟩,⟨ok6,⟨trivial,⟨trivial,⟨trivial,⟨trivial,⟨trivial,trivial,⟨ok262,trivial,trivial⟩⟩,⟨ok134,trivial,trivial⟩⟩,⟨ok70,trivial,⟨ok198,trivial,trivial⟩⟩⟩,⟨ok38,⟨trivial,⟨trivial,trivial,⟨ok294,trivial,trivial⟩⟩,⟨ok166,trivial,trivial⟩⟩,⟨ok102,trivial,⟨ok230,trivial,trivial⟩⟩⟩⟩,⟨ok22,⟨trivial,⟨trivial,⟨trivial,trivial,⟨ok278,trivial,trivial⟩⟩,⟨ok150,trivial,trivial⟩⟩,⟨ok86,trivial,⟨ok214,trivial,trivial⟩⟩⟩,⟨ok54,⟨trivial,⟨trivial,trivial,⟨ok310,trivial,trivial⟩⟩,⟨ok182,trivial,trivial⟩⟩,⟨ok118,trivial,⟨ok246,trivial,trivial⟩⟩⟩⟩⟩,⟨ok14,⟨trivial,⟨trivial,⟨trivial,⟨trivial,trivial,⟨ok270,trivial,trivial⟩⟩,⟨ok142,trivial,trivial⟩⟩,⟨ok78,trivial,⟨ok206,trivial,trivial⟩⟩⟩,⟨ok46,⟨trivial,⟨trivial,trivial,⟨ok302,trivial,trivial⟩⟩,⟨ok174,trivial,trivial⟩⟩,⟨ok110,trivial,⟨ok238,trivial,trivial⟩⟩⟩⟩,⟨ok30,⟨trivial,⟨trivial,⟨trivial,trivial,⟨ok286,trivial,trivial⟩⟩,⟨ok158,trivial,trivial⟩⟩,⟨ok94,trivial,⟨ok222,trivial,trivial⟩⟩⟩,⟨ok62,⟨trivial,⟨trivial,trivial,⟨ok318,trivial,trivial⟩⟩,⟨ok190,trivial,trivial⟩⟩,⟨ok126,trivial,⟨ok254,trivial,trivial⟩⟩⟩⟩⟩⟩⟩⟩,⟨ok1,⟨trivial,⟨trivial,⟨trivial,⟨trivial,⟨trivial,⟨trivial,⟨trivial,trivial,⟨ok257,trivial,trivial⟩⟩,⟨ok129,trivial,trivial⟩⟩,⟨ok65,trivial,⟨ok193,trivial,trivial⟩⟩⟩,⟨ok33,⟨trivial,⟨trivial,trivial,⟨ok289,trivial,trivial⟩⟩,⟨ok161,trivial,trivial⟩⟩,⟨ok97,trivial,⟨ok225,trivial,trivial⟩⟩⟩⟩,⟨ok17,⟨trivial,⟨trivial,⟨trivial,trivial,⟨ok273,trivial,trivial⟩⟩,⟨ok145,trivial,trivial⟩⟩,⟨ok81,trivial,⟨ok209,trivial,trivial⟩⟩⟩,⟨ok49,⟨trivial,⟨trivial,trivial,⟨ok305,trivial,trivial⟩⟩,⟨ok177,trivial,trivial⟩⟩,⟨ok113,trivial,⟨ok241,trivial,trivial⟩⟩⟩⟩⟩,⟨ok9,⟨trivial,⟨trivial,⟨trivial,⟨trivial,trivial,⟨ok265,trivial,trivial⟩⟩,⟨ok137,trivial,trivial⟩⟩,⟨ok73,trivial,⟨ok201,trivial,trivial⟩⟩⟩,⟨ok41,⟨trivial,⟨trivial,trivial,⟨ok297,trivial,trivial⟩⟩,⟨ok169,trivial,trivial⟩⟩,⟨ok105,trivial,⟨ok233,trivial,trivial⟩⟩⟩⟩,⟨ok25,⟨trivial,⟨trivial,⟨trivial,trivial,⟨ok281,trivial,trivial⟩⟩,⟨ok153,trivial,trivial⟩⟩,⟨ok89,trivial,⟨ok217,trivial,trivial⟩⟩⟩,⟨ok57,⟨trivial,⟨trivial,trivial,⟨ok313,trivial,trivial⟩⟩,⟨ok185,trivial,trivial⟩⟩,⟨ok121,trivial,⟨ok249,trivial,trivial⟩⟩⟩⟩⟩⟩,⟨ok5,⟨trivial,⟨trivial,⟨trivial,⟨trivial,⟨trivial,trivial,⟨ok261,trivial,trivial⟩⟩,⟨ok133,trivial,trivial⟩⟩,⟨ok69,trivial,⟨ok197,trivial,trivial⟩⟩⟩,⟨ok37,⟨trivial,⟨trivial,trivial,⟨ok293,trivial,trivial⟩⟩,⟨ok165,trivial,trivial⟩⟩,⟨ok101,trivial,⟨ok229,trivial,trivial⟩⟩⟩⟩,⟨ok21,⟨trivial,⟨trivial,⟨trivial,trivial,⟨ok277,trivial,trivial⟩⟩,⟨ok149,trivial,trivial⟩⟩,⟨ok85,trivial,⟨ok213,trivial,trivial⟩⟩⟩,⟨ok53,⟨trivial,⟨trivial,trivial,⟨ok309,trivial,trivial⟩⟩,⟨ok181,trivial,trivial⟩⟩,⟨ok117,trivial,⟨ok245,trivial,trivial⟩⟩⟩⟩⟩,⟨ok13,⟨trivial,⟨trivial,⟨trivial,⟨trivial,trivial,⟨ok269,trivial,trivial⟩⟩,⟨ok141,trivial,trivial⟩⟩,⟨ok77,trivial,⟨ok205,trivial,trivial⟩⟩⟩,⟨ok45,⟨trivial,⟨trivial,trivial,⟨ok301,trivial,trivial⟩⟩,⟨ok173,trivial,trivial⟩⟩,⟨ok109,trivial,⟨ok237,trivial,trivial⟩⟩⟩⟩,⟨ok29,⟨trivial,⟨trivial,⟨trivial,trivial,⟨ok285,trivial,trivial⟩⟩,⟨ok157,trivial,trivial⟩⟩,⟨ok93,trivial,⟨ok221,trivial,trivial⟩⟩⟩,⟨ok61,⟨trivial,⟨trivial,trivial,⟨ok317,trivial,trivial⟩⟩,⟨ok189,trivial,trivial⟩⟩,⟨ok125,trivial,⟨ok253,trivial,trivial⟩⟩⟩⟩⟩⟩⟩,⟨ok3,⟨trivial,⟨trivial,⟨trivial,⟨trivial,⟨trivial,⟨trivial,trivial,⟨ok259,trivial,trivial⟩⟩,⟨ok131,trivial,trivial⟩⟩,⟨ok67,trivial,⟨ok195,trivial,trivial⟩⟩⟩,⟨ok35,⟨trivial,⟨trivial,trivial,⟨ok291,trivial,trivial⟩⟩,⟨ok163,trivial,trivial⟩⟩,⟨ok99,trivial,⟨ok227,trivial,trivial⟩⟩⟩⟩,⟨ok19,⟨trivial,⟨trivial,⟨trivial,trivial,⟨ok275,trivial,trivial⟩⟩,⟨ok147,trivial,trivial⟩⟩,⟨ok83,trivial,⟨ok211,trivial,trivial⟩⟩⟩,⟨ok51,⟨trivial,⟨trivial,trivial,⟨ok307,trivial,trivial⟩⟩,⟨ok179,trivial,trivial⟩⟩,⟨ok115,trivial,⟨ok243,trivial,trivial⟩⟩⟩⟩⟩,⟨ok11,⟨trivial,⟨trivial,⟨trivial,⟨trivial,trivial,⟨ok267,trivial,trivial⟩⟩,⟨ok139,trivial,trivial⟩⟩,⟨ok75,trivial,⟨ok203,trivial,trivial⟩⟩⟩,⟨ok43,⟨trivial,⟨trivial,trivial,⟨ok299,trivial,trivial⟩⟩,⟨ok171,trivial,trivial⟩⟩,⟨ok107,trivial,⟨ok235,trivial,trivial⟩⟩⟩⟩,⟨ok27,⟨trivial,⟨trivial,⟨trivial,trivial,⟨ok283,trivial,trivial⟩⟩,⟨ok155,trivial,trivial⟩⟩,⟨ok91,trivial,⟨ok219,trivial,trivial⟩⟩⟩,⟨ok59,⟨trivial,⟨trivial,trivial,⟨ok315,trivial,trivial⟩⟩,⟨ok187,trivial,trivial⟩⟩,⟨ok123,trivial,⟨ok251,trivial,trivial⟩⟩⟩⟩⟩⟩,⟨ok7,⟨trivial,⟨trivial,⟨trivial,⟨trivial,⟨trivial,trivial,⟨ok263,trivial,trivial⟩⟩,⟨ok135,trivial,trivial⟩⟩,⟨ok71,trivial,⟨ok199,trivial,trivial⟩⟩⟩,⟨ok39,⟨trivial,⟨trivial,trivial,⟨ok295,trivial,trivial⟩⟩,⟨ok167,trivial,trivial⟩⟩,⟨ok103,trivial,⟨ok231,trivial,trivial⟩⟩⟩⟩,⟨ok23,⟨trivial,⟨trivial,⟨trivial,trivial,⟨ok279,trivial,trivial⟩⟩,⟨ok151,trivial,trivial⟩⟩,⟨ok87,trivial,⟨ok215,trivial,trivial⟩⟩⟩,⟨ok55,⟨trivial,⟨trivial,trivial,⟨ok311,trivial,trivial⟩⟩,⟨ok183,trivial,trivial⟩⟩,⟨ok119,trivial,⟨ok247,trivial,trivial⟩⟩⟩⟩⟩,⟨ok15,⟨trivial,⟨trivial,⟨trivial,⟨trivial,trivial,⟨ok271,trivial,trivial⟩⟩,⟨ok143,trivial,trivial⟩⟩,⟨ok79,trivial,⟨ok207,trivial,trivial⟩⟩⟩,⟨ok47,⟨trivial,⟨trivial,trivial,⟨ok303,trivial,trivial⟩⟩,⟨ok175,trivial,trivial⟩⟩,⟨ok111,trivial,⟨ok239,trivial,trivial⟩⟩⟩⟩,⟨ok31,⟨trivial,⟨trivial,⟨trivial,trivial,⟨ok287,trivial,trivial⟩⟩,⟨ok159,trivial,trivial⟩⟩,⟨ok95,trivial,⟨ok223,trivial,trivial⟩⟩⟩,⟨ok63,⟨trivial,⟨trivial,trivial,⟨ok319,trivial,trivial⟩⟩,⟨ok191,trivial,trivial⟩⟩,⟨ok127,trivial,⟨ok255,trivial,trivial⟩⟩⟩⟩⟩⟩⟩⟩⟩ h
 have h2:=this;simp at h2;exact h2
end Go.Abs
namespace Go.Abs
variable [Globals]
structure Val where
 kind:Int
 n:Int
 s:ByteArray
 deriving Inhabited,DecidableEq
structure Attr where
 name:ByteArray
 kind:Int
 min:Int
 max:Int
 enum:List ByteArray
 writable:Bool
 safety:Bool
 deriving Inhabited,DecidableEq
structure Eff where
 kind:Int
 attr:ByteArray
 n:Int
 deriving Inhabited,DecidableEq
structure Cmd where
 name:ByteArray
 param:Attr
 effects:List Eff
 deriving Inhabited,DecidableEq
structure Clu where
 name:ByteArray
 attrs:List Attr
 commands:List Cmd
 events:List ByteArray
 deriving Inhabited,DecidableEq
structure Dev where
 id:Int
 eui:Int
 vendor:Int
 sleepy:Bool
 poll:Int
 room:ByteArray
 clusters:List ByteArray
 deriving Inhabited,DecidableEq
structure Hom where
 clusters:List Clu
 devices:List Dev
 deriving Inhabited,DecidableEq
structure Key where
 dev:Int
 cluster:ByteArray
 attr:ByteArray
 deriving Inhabited,DecidableEq
structure Item where
 key:Key
 value:Val
 version:Int
 deriving Inhabited,DecidableEq
def cVal (v:Val):List PV:=[vint v.kind,vint v.n,vstr v.s]
def cAttr (a:Attr):List PV:=[vstr a.name,vint a.kind,vint a.min,vint a.max,roL 1 cstr a.enum,vbool a.writable,vbool a.safety]
def cEff (e:Eff):List PV:=[vint e.kind,vstr e.attr,vint e.n]
def cCmd (c:Cmd):List PV:=vstr c.name ::(cAttr c.param ++ [roL 3 cEff c.effects])
def cClu (c:Clu):List PV:=[vstr c.name,roL 7 cAttr c.attrs,roL 9 cCmd c.commands,roL 1 cstr c.events]
def cDev (d:Dev):List PV:=[vint d.id,.val (.int .u64 d.eui),vint d.vendor,vbool d.sleepy,vint d.poll,vstr d.room,roL 1 cstr d.clusters]
def cHom (h:Hom):List PV:=[roL 4 cClu h.clusters,roL 7 cDev h.devices]
def cKey (k:Key):List PV:=[vint k.dev,vstr k.cluster,vstr k.attr]
def cItem (x:Item):List PV:=cKey x.key ++ (cVal x.value ++ [vint x.version])
def idxOf (l:List ByteArray) (s:ByteArray):Int:=match l.findIdx? (· = s) with|some i=>i|none=>-1
theorem Z0h6 {l:List ByteArray} {x:ByteArray} {k:Nat} (hk:k < l.length) (h:l.getD k default=x) (hf:∀ j,j < k→l.getD j default≠x):idxOf l x=k:=by
 have:l.findIdx? (· = x)=some k:=by
  rw [List.findIdx?_eq_some_iff_getElem]
  refine⟨hk,by simpa [List.getD,hk] using h,fun j hj=>?_⟩
  have:=hf j hj
  simpa [List.getD,show j < l.length from by omega] using this
 simp [idxOf,this]
theorem Z0h5 {l:List ByteArray} {x:ByteArray} (hf:∀ j,j < l.length→l.getD j default≠x):idxOf l x = -1:=by
 have:l.findIdx? (· = x)=none:=by
  rw [List.findIdx?_eq_none_iff]
  intro y hy
  obtain⟨j,hj,rfl⟩:=List.getElem_of_mem hy
  simpa [List.getD,hj] using hf j hj
 simp [idxOf,this]
def letterOk (i:Nat) (c:Int):Bool:=(decide (97≤c) && decide (c≤122)) ||(decide (i≠0) && (decide (c=95) || decide (c=45) ||(decide (48≤c) && decide (c≤57))))
def validName (s:ByteArray):Bool:=decide (1≤s.size) && decide (s.size≤24) && (List.range s.size).all fun i=>letterOk i (byteAt s i)
theorem validName_iff {s:ByteArray}:validName s=true↔(1≤s.size∧s.size≤24∧∀ i,i < s.size→letterOk i (byteAt s i)=true):=by
 simp [validName,and_assoc]
def firstE (n:Nat) (f:Nat→Int):Int:=match (List.range n).find? (fun i=>decide (f i≠0)) with|some i=>f i|none=>0
theorem Z0ef {n k:Nat} {f:Nat→Int} (hk:k < n) (h:f k≠0) (hf:∀ j,j < k→f j=0):firstE n f=f k:=by
 have:(List.range n).find? (fun i=>decide (f i≠0))=some k:=by
  rw [List.find?_range_eq_some]
  exact⟨by simpa using h,by simpa using hk,fun j hj=>by simpa using hf j hj⟩
 simp only [firstE,this]
theorem Z0eg {n:Nat} {f:Nat→Int} (hf:∀ j,j < n→f j=0):firstE n f=0:=by
 have:(List.range n).find? (fun i=>decide (f i≠0))=none:=by
  rw [List.find?_eq_none]
  intro x hx
  simpa using hf x (by simpa using hx)
 simp only [firstE,this]
def inRange (n:Int):Bool:=decide (-1099511627776≤n) && decide (n≤1099511627776)
def membersE (l:List ByteArray):Int:=if l.length < 1∨64 < l.length then 3 else firstE l.length fun i=>if validName (l.getD i default)=false then 10 else if idxOf l (l.getD i default) < i then 9 else 0
def defE (a:Attr):Int:=
 if validName a.name=false then 10 else if a.kind < 1∨4 < a.kind then 7
 else if a.kind=2∧(inRange a.min=false∨inRange a.max=false∨a.max < a.min) then 2
 else if a.kind≠2∧(a.min≠0∨a.max≠0) then 2
 else if a.kind=3 then membersE a.enum else if 0 < a.enum.length then 4 else 0
def valE (v:Val):Int:=
 if v.kind < 0∨4 < v.kind then 7
 else if ((v.kind=0∨v.kind=4)∧v.n≠0)∨(v.kind=1∧v.n≠0∧v.n≠1)∨(v.kind=2∧inRange v.n=false)∨(v.kind=3∧(v.n < 0∨63 < v.n)) then 2
 else if 60 < v.s.size then 3 else if v.s≠⟨#[]⟩∧v.kind≠4 then 4 else 0
def fitsE (a:Attr) (v:Val):Int:=
 if defE a≠0 then defE a else if valE v≠0 then valE v else if v.kind≠a.kind then 11
 else if (v.kind=2∧(v.n < a.min∨a.max < v.n))∨(v.kind=3∧(a.enum.length:Int)≤v.n) then 2 else 0
def clampI (n lo hi:Int):Int:=if hi < lo∨hi < n then hi else if n < lo then lo else n
def noVal:Val:=⟨0,0,⟨#[]⟩⟩
def zeroV (a:Attr):Val:=if defE a≠0 then noVal else if a.kind=2 then ⟨a.kind,clampI 0 a.min a.max,⟨#[]⟩⟩ else ⟨a.kind,0,⟨#[]⟩⟩
def limitV (a:Attr) (v:Val):Val:=if defE a=0∧a.kind=2∧v.kind=2 then ⟨v.kind,clampI v.n a.min a.max,v.s⟩ else v
end Go.Abs
namespace Go.Abs
open Go.Proofs
theorem hm:Tryz.prog.follows .mixedOrders=true:=by kernel_rfl
theorem Z066 (l:List ByteArray) (x:ByteArray) (hl:l.length≤1048576):AC Tryz.prog 189 [.pv (roL 1 cstr l),.pv (vstr x)] [] (.pv (vint (idxOf l x))) []:=by
 refine AC.of_awp (T:=T) T_ok hm Tryz.call189 Tryz.func189 rfl rfl rfl ?_
 conv=>whnf
 refine⟨Nat,fun k=>k≤l.length∧∀ j,j < k→l.getD j default≠x,fun k=>⟨[(0,.pv (roL 1 cstr l)),(1,.pv (vstr x)),(7,.pv (vint l.length)),(8,.pv (vint k))],[]⟩,fun k=>l.length - k,0,[],⟨Nat.zero_le _,fun j h=>absurd h (by omega)⟩,⟨.rfl,.rfl,.rfl,.rfl⟩,fun k hk=>?_⟩
 conv=>whnf
 refine⟨fun h=>?_,fun h=>?_⟩
 ·simp only [decide_eq_true_eq] at h
  refine⟨by omega,?_⟩
  conv=>whnf
  refine⟨fun h2=>?_,fun h2=>?_⟩
  ·conv=>whnf
   simp only [decide_eq_true_eq] at h2
   exact PSub.int (by rw [Z0h6 (k:=k) (by omega) (by simpa [eq_comm] using h2) hk.2])
  ·conv=>whnf
   refine .inl ⟨wrap64 (by omega),?_⟩
   conv=>whnf
   simp only [decide_eq_false_iff_not] at h2
   refine⟨k+1,[],⟨by omega,fun j hj=>?_⟩,by dsimp only;omega,.rfl,.rfl,.rfl,.rfl⟩
   by_cases e:j=k
   ·subst e;simpa [eq_comm] using h2
   ·exact hk.2 j (by omega)
 ·conv=>whnf
  simp only [decide_eq_false_iff_not] at h
  exact PSub.int (by rw [Z0h5 fun j hj=>hk.2 j (by omega)])
theorem Z01r (l:List ByteArray) (x:ByteArray) (hl:l.length≤1048576):AC Tryz.prog 130 [.pv (roL 1 cstr l),.pv (vstr x)] [] (.pv (vint (idxOf l x))) []:=by
 refine AC.of_awp (T:=T) T_ok hm Tryz.call130 Tryz.func130 rfl rfl rfl ?_
 conv=>whnf
 refine .inl ⟨_,Z066 l x hl,?_⟩
 conv=>whnf
 exact PSub.rfl
theorem Z01u (c:Int):AC Tryz.prog 129 [.pv (.val (.int .i32 c))] [] (.pv (vbool (decide (97≤c) && decide (c≤122)))) []:=by
 refine AC.of_awp (T:=T) T_ok hm Tryz.call129 Tryz.func129 rfl rfl rfl ?_
 conv=>whnf
 refine⟨fun h=>?_,fun h=>?_⟩
 ·conv=>whnf
  simp only [decide_eq_true_eq] at h
  exact PSub.sb (by simp [h])
 ·conv=>whnf
  simp only [decide_eq_false_iff_not] at h
  exact PSub.lit_sb (by simp [h])
theorem letterOk_iff {i:Nat} {c:Int}:letterOk i c=true↔((97≤c∧c≤122)∨(i≠0∧(c=95∨c=45∨(48≤c∧c≤57)))):=by
 simp [letterOk,or_assoc]
theorem Z0ys {s:ByteArray} {k:Nat} (hk:k < s.size) (h:¬ ((97≤byteAt s k∧byteAt s k≤122)∨(k≠0∧(byteAt s k=95∨byteAt s k=45∨(48≤byteAt s k∧byteAt s k≤57))))):false=validName s:=by
 symm
 rw [←Bool.not_eq_true,validName_iff]
 intro ⟨_,_,h2⟩
 exact h (letterOk_iff.1 (h2 k hk))
theorem Z0c3 {s:ByteArray} {k:Nat} (hk:k < s.size):(byteAt s k < 128∧((Utf8.decode s k).1:Int)=byteAt s k∧(Utf8.decode s k).2=1)∨(128≤byteAt s k∧128≤(Utf8.decode s k).1):=by
 have hlt:k < s.data.size:=hk
 have hb:byteAt s k=((s[k]'hk).toNat:Int):=by simp only [byteAt,Array.getD,dif_pos hlt];rfl
 rw [hb]
 by_cases h:(s[k]'hk).toNat < 128
 ·left
  rw [decode_ascii s k hk h]
  exact⟨by omega,rfl,rfl⟩
 ·right
  exact⟨by omega,(decode_high s k hk (by omega)).1⟩
theorem Z01t (s:ByteArray):AC Tryz.prog 83 [.pv (vstr s)] [] (.pv (vbool (validName s))) []:=by
 refine AC.of_awp (T:=T) T_ok hm Tryz.call83 Tryz.func83 rfl rfl rfl ?_
 conv=>whnf
 refine⟨fun h=>?_,fun h=>?_⟩
 ·conv=>whnf
  simp only [decide_eq_true_eq] at h
  exact PSub.lit_sb (by symm;simp [validName];omega)
 conv=>whnf
 refine⟨fun h2=>?_,fun h2=>?_⟩
 ·conv=>whnf
  simp only [decide_eq_true_eq] at h2
  exact PSub.lit_sb (by symm;simp [validName];omega)
 conv=>whnf
 simp only [decide_eq_false_iff_not] at h h2
 refine⟨Nat,fun k=>k≤s.size∧∀ j,j < k→letterOk j (byteAt s j)=true,fun k=>⟨[(0,.pv (vstr s)),(14,.ref 500)],[(500,.siter s k)]⟩,fun k=>s.size - k,0,[(500,14)],⟨Nat.zero_le _,fun j h=>absurd h (by omega)⟩,⟨⟨⟨rfl,rfl⟩,trivial⟩,.rfl,trivial⟩,fun k hk=>?_⟩
 conv=>whnf
 refine⟨fun h3=>?_,fun h3=>?_⟩
 ·conv=>whnf
  refine .inl ⟨_,Z01u _,?_⟩
  conv=>whnf
  have hb:∀ j,j < k→letterOk j (byteAt s j)=true:=hk.2
  have hkl:=hk.1
  clear hk
  have hd:=Z0c3 h3
  iterate 9 (all_goals first|(refine⟨fun h=>?_,fun h=>?_⟩<;>(conv=>whnf))|skip)
  all_goals simp only [decide_eq_true_eq,decide_eq_false_iff_not,Bool.not_eq_true',Bool.not_eq_false',Bool.and_eq_true,Bool.and_eq_false_iff] at *
  all_goals first
   |contradiction
   |exact PSub.lit_sb (Z0ys (k:=k) h3 (by omega))
   |(refine⟨k+1,[],⟨by omega,fun j hj=>?_⟩,by omega,⟨⟨rfl,by omega⟩,trivial⟩,.rfl,trivial⟩
     by_cases e:j=k
     ·subst e;exact letterOk_iff.2 (by omega)
     ·exact hb j (by omega))
 ·conv=>whnf
  exact PSub.lit_sb (by symm;rw [validName_iff];exact⟨by omega,by omega,fun i hi=>hk.2 i (by have:=hk.1;omega)⟩)
end Go.Abs
namespace Go.Abs
open Go.Proofs
set_option maxRecDepth 10000
theorem Z07h (n:Int):AC Tryz.prog 236 [.pv (vint n)] [] (.pv (vbool (inRange n))) []:=by
 refine AC.of_awp (T:=T) T_ok hm Tryz.call236 Tryz.func236 rfl rfl rfl ?_
 conv=>whnf
 refine⟨fun h=>?_,fun h=>?_⟩
 ·conv=>whnf
  simp only [decide_eq_true_eq] at h
  exact PSub.sb (by simp [inRange,h])
 ·conv=>whnf
  simp only [decide_eq_false_iff_not] at h
  exact PSub.lit_sb (by simp [inRange,h])
theorem Z07i (l:List ByteArray) (hl:l.length≤1048576):AC Tryz.prog 237 [.pv (roL 1 cstr l)] [] (.pv (vint (membersE l))) []:=by
 refine AC.of_awp (T:=T) T_ok hm Tryz.call237 Tryz.func237 rfl rfl rfl ?_
 conv=>whnf
 refine⟨fun h=>?_,fun h=>?_⟩
 ·conv=>whnf
  simp only [decide_eq_true_eq] at h
  exact PSub.int (by rw [membersE,if_pos (by omega)])
 conv=>whnf
 refine⟨fun h2=>?_,fun h2=>?_⟩
 ·conv=>whnf
  simp only [decide_eq_true_eq] at h2
  exact PSub.int (by rw [membersE,if_pos (by omega)])
 conv=>whnf
 simp only [decide_eq_false_iff_not] at h h2
 have e0:membersE l=firstE l.length fun i=>if validName (l.getD i default)=false then 10 else if idxOf l (l.getD i default) < i then 9 else 0:=by rw [membersE,if_neg (by omega)]
 rw [e0]
 generalize hf:(fun i=>if validName (l.getD i default)=false then (10:Int) else if idxOf l (l.getD i default) < (i:Int) then 9 else 0)=f
 have hfi:∀ i,f i=if validName (l.getD i default)=false then (10:Int) else if idxOf l (l.getD i default) < (i:Int) then 9 else 0:=fun i=>by rw [←hf]
 refine⟨Nat,fun k=>k≤l.length∧∀ j,j < k→f j=0,fun k=>⟨[(0,.pv (roL 1 cstr l)),(13,.pv (roL 1 cstr l)),(14,.pv (vint l.length)),(15,.pv (vint k))],[]⟩,fun k=>l.length - k,0,[],⟨Nat.zero_le _,fun j h=>absurd h (by omega)⟩,⟨.rfl,.rfl,.rfl,.rfl⟩,fun k hk=>?_⟩
 conv=>whnf
 refine⟨fun h3=>?_,fun h3=>?_⟩
 ·conv=>whnf
  simp only [decide_eq_true_eq] at h3
  refine⟨by omega,?_⟩
  conv=>whnf
  refine .inl ⟨_,Z01t _,?_⟩
  conv=>whnf
  have hfk:=hfi k
  refine⟨fun h4=>?_,fun h4=>?_⟩
  ·conv=>whnf
   simp only [Bool.not_eq_true',Int.toNat_natCast] at h4
   rw [if_pos h4] at hfk
   exact PSub.int (by rw [Z0ef (k:=k) (by omega) (by rw [hfk];decide) hk.2,hfk])
  ·conv=>whnf
   refine .inl ⟨_,Z01r l _ hl,?_⟩
   conv=>whnf
   simp only [Bool.not_eq_false',Int.toNat_natCast] at h4
   rw [if_neg (by rw [h4];decide)] at hfk
   refine⟨fun h5=>?_,fun h5=>?_⟩
   ·conv=>whnf
    simp only [decide_eq_true_eq,Int.toNat_natCast] at h5
    rw [if_pos h5] at hfk
    exact PSub.int (by rw [Z0ef (k:=k) (by omega) (by rw [hfk];decide) hk.2,hfk])
   ·conv=>whnf
    simp only [decide_eq_false_iff_not,Int.toNat_natCast] at h5
    rw [if_neg h5] at hfk
    refine .inl ⟨wrap64 (by omega),?_⟩
    conv=>whnf
    refine⟨k+1,[],⟨by omega,fun j hj=>?_⟩,by dsimp only;omega,.rfl,.rfl,.rfl,.rfl⟩
    by_cases e:j=k
    ·subst e;exact hfk
    ·exact hk.2 j (by omega)
 ·conv=>whnf
  simp only [decide_eq_false_iff_not] at h3
  exact PSub.int (by rw [Z0eg fun j hj=>hk.2 j (by omega)])
theorem Z07c (a:Attr) (hl:a.enum.length≤1048576):AC Tryz.prog 187 [.pv (.agg (cAttr a))] [] (.pv (vint (defE a))) []:=by
 refine AC.of_awp (T:=T) T_ok hm Tryz.call187 Tryz.func187 rfl rfl rfl ?_
 conv=>whnf
 refine .inl ⟨_,Z01t _,?_⟩
 conv=>whnf
 refine⟨fun h=>?_,fun h=>?_⟩
 ·conv=>whnf
  simp only [Bool.not_eq_true'] at h
  exact PSub.int (by rw [defE,if_pos h])
 conv=>whnf
 simp only [Bool.not_eq_false'] at h
 have h:¬ validName a.name=false:=by rw [h];decide
 have hk:a.kind < 1∨4 < a.kind→PSub (ofConst (.int .i64 7)) (vint (defE a)):=fun hh=>PSub.int (by rw [defE,if_neg h,if_pos hh])
 refine⟨fun h2=>?_,fun h2=>?_⟩
 ·conv=>whnf
  simp only [decide_eq_true_eq] at h2
  exact hk (.inl h2)
 conv=>whnf
 refine⟨fun h3=>?_,fun h3=>?_⟩
 ·conv=>whnf
  simp only [decide_eq_true_eq] at h3
  exact hk (.inr h3)
 conv=>whnf
 simp only [decide_eq_false_iff_not] at h2 h3
 have hk2:¬ (a.kind < 1∨4 < a.kind):=by omega
 have tail:∀ (hq:¬ (a.kind=2∧(inRange a.min=false∨inRange a.max=false∨a.max < a.min))) (hq2:¬ (a.kind≠2∧(a.min≠0∨a.max≠0))),defE a=if a.kind=3 then membersE a.enum else if 0 < a.enum.length then 4 else 0:=fun hq hq2=>by
  rw [defE,if_neg h,if_neg hk2,if_neg hq,if_neg hq2]
 refine⟨fun h4=>?_,fun h4=>?_⟩
 ·conv=>whnf
  simp only [decide_eq_true_eq] at h4
  have bad:(inRange a.min=false∨inRange a.max=false∨a.max < a.min)→PSub (ofConst (.int .i64 2)) (vint (defE a)):=fun hh=>PSub.int (by rw [defE,if_neg h,if_neg hk2,if_pos ⟨h4,hh⟩])
  refine .inl ⟨_,Z07h _,?_⟩
  conv=>whnf
  refine⟨fun h5=>?_,fun h5=>?_⟩
  ·conv=>whnf
   simp only [Bool.not_eq_true'] at h5
   exact bad (.inl h5)
  conv=>whnf
  refine .inl ⟨_,Z07h _,?_⟩
  conv=>whnf
  refine⟨fun h6=>?_,fun h6=>?_⟩
  ·conv=>whnf
   simp only [Bool.not_eq_true'] at h6
   exact bad (.inr (.inl h6))
  conv=>whnf
  refine⟨fun h7=>?_,fun h7=>?_⟩
  ·conv=>whnf
   simp only [decide_eq_true_eq] at h7
   exact bad (.inr (.inr h7))
  conv=>whnf
  simp only [decide_eq_false_iff_not,Bool.not_eq_false'] at h5 h6 h7
  have hd:=tail (by rw [h5,h6];simp;omega) (by omega)
  rw [if_neg (by omega)] at hd
  rw [hd]
  refine⟨fun h8=>?_,fun h8=>?_⟩
  ·simp only [decide_eq_true_eq] at h8
   omega
  conv=>whnf
  refine⟨fun h9=>?_,fun h9=>?_⟩
  ·conv=>whnf
   simp only [decide_eq_true_eq] at h9
   exact PSub.int (by rw [if_pos (by omega)])
  ·conv=>whnf
   simp only [decide_eq_false_iff_not] at h9
   exact PSub.int (by rw [if_neg (by omega)])
 ·conv=>whnf
  simp only [decide_eq_false_iff_not] at h4
  have bad:(a.min≠0∨a.max≠0)→PSub (ofConst (.int .i64 2)) (vint (defE a)):=fun hh=>PSub.int (by rw [defE,if_neg h,if_neg hk2,if_neg (fun x=>h4 x.1),if_pos ⟨h4,hh⟩])
  refine⟨fun h5=>?_,fun h5=>?_⟩
  ·conv=>whnf
   simp only [Bool.not_eq_true',decide_eq_false_iff_not] at h5
   exact bad (.inl h5)
  conv=>whnf
  refine⟨fun h6=>?_,fun h6=>?_⟩
  ·conv=>whnf
   simp only [Bool.not_eq_true',decide_eq_false_iff_not] at h6
   exact bad (.inr h6)
  conv=>whnf
  simp only [Bool.not_eq_false',decide_eq_true_eq] at h5 h6
  have hd:=tail (fun x=>h4 x.1) (by omega)
  rw [hd]
  refine⟨fun h8=>?_,fun h8=>?_⟩
  ·conv=>whnf
   simp only [decide_eq_true_eq] at h8
   rw [if_pos h8]
   refine .inl ⟨_,Z07i _ hl,?_⟩
   conv=>whnf
   exact PSub.rfl
  conv=>whnf
  simp only [decide_eq_false_iff_not] at h8
  rw [if_neg h8]
  refine⟨fun h9=>?_,fun h9=>?_⟩
  ·conv=>whnf
   simp only [decide_eq_true_eq] at h9
   exact PSub.int (by rw [if_pos (by omega)])
  ·conv=>whnf
   simp only [decide_eq_false_iff_not] at h9
   exact PSub.int (by rw [if_neg (by omega)])
theorem Z07b (v:Val):AC Tryz.prog 210 [.pv (.agg (cVal v))] [] (.pv (vint (valE v))) []:=by
 refine AC.of_awp (T:=T) T_ok hm Tryz.call210 Tryz.func210 rfl rfl rfl ?_
 conv=>whnf
 iterate 14 (all_goals first|(refine⟨fun h=>?_,fun h=>?_⟩<;>(conv=>whnf))|(refine .inl ⟨_,Z07h _,?_⟩;conv=>whnf)|skip)
 all_goals simp only [decide_eq_true_eq,decide_eq_false_iff_not,Bool.not_eq_true',Bool.not_eq_false'] at *
 all_goals first
  |contradiction
  |exact PSub.int (by simp only [valE];(repeat' split)<;>first|rfl|omega|(simp_all;done)|(simp_all;omega))
  |trace_state
theorem Z07d (a:Attr) (v:Val) (hl:a.enum.length≤1048576):AC Tryz.prog 268 [.pv (.agg (cAttr a)),.pv (.agg (cVal v))] [] (.pv (vint (fitsE a v))) []:=by
 refine AC.of_awp (T:=T) T_ok hm Tryz.call268 Tryz.func268 rfl rfl rfl ?_
 conv=>whnf
 iterate 14 (all_goals first|(refine⟨fun h=>?_,fun h=>?_⟩<;>(conv=>whnf))|(refine .inl ⟨_,Z07c a hl,?_⟩;conv=>whnf)|(refine .inl ⟨_,Z07b v,?_⟩;conv=>whnf)|skip)
 all_goals simp only [decide_eq_true_eq,decide_eq_false_iff_not,Bool.not_eq_true',Bool.not_eq_false'] at *
 all_goals first
  |contradiction
  |exact PSub.int (by simp only [fitsE];(repeat' split)<;>first|rfl|omega|(simp_all;done)|(simp_all;omega))
  |trace_state
theorem Z01w (n lo hi:Int):AC Tryz.prog 247 [.pv (vint n),.pv (vint lo),.pv (vint hi)] [] (.pv (vint (clampI n lo hi))) []:=by
 refine AC.of_awp (T:=T) T_ok hm Tryz.call247 Tryz.func247 rfl rfl rfl ?_
 conv=>whnf
 iterate 5 (all_goals first|(refine⟨fun h=>?_,fun h=>?_⟩<;>(conv=>whnf))|skip)
 all_goals simp only [decide_eq_true_eq,decide_eq_false_iff_not,Bool.not_eq_true',Bool.not_eq_false'] at *
 all_goals first
  |contradiction
  |exact PSub.int (by simp only [clampI];(repeat' split)<;>first|rfl|omega)
  |trace_state
theorem Z07g (a:Attr) (hl:a.enum.length≤1048576):AC Tryz.prog 291 [.pv (.agg (cAttr a))] [] (.pv (.agg (cVal (zeroV a)))) []:=by
 refine AC.of_awp (T:=T) T_ok hm Tryz.call291 Tryz.func291 rfl rfl rfl ?_
 conv=>whnf
 iterate 6 (all_goals first|(refine⟨fun h=>?_,fun h=>?_⟩<;>(conv=>whnf))|(refine .inl ⟨_,Z07c a hl,?_⟩;conv=>whnf)|(refine .inl ⟨_,Z01w _ _ _,?_⟩;conv=>whnf)|skip)
 all_goals simp only [decide_eq_true_eq,decide_eq_false_iff_not,Bool.not_eq_true',Bool.not_eq_false'] at *
 all_goals first
  |contradiction
  |exact PSub.of_eq (by simp only [zeroV];(repeat' split)<;>first|rfl|omega|contradiction|(simp_all;done))
  |trace_state
theorem Z07f (a:Attr) (v:Val) (hl:a.enum.length≤1048576):AC Tryz.prog 288 [.pv (.agg (cAttr a)),.pv (.agg (cVal v))] [] (.pv (.agg (cVal (limitV a v)))) []:=by
 refine AC.of_awp (T:=T) T_ok hm Tryz.call288 Tryz.func288 rfl rfl rfl ?_
 conv=>whnf
 iterate 8 (all_goals first|(refine⟨fun h=>?_,fun h=>?_⟩<;>(conv=>whnf))|(refine .inl ⟨_,Z07c a hl,?_⟩;conv=>whnf)|(refine .inl ⟨_,Z01w _ _ _,?_⟩;conv=>whnf)|skip)
 all_goals simp only [decide_eq_true_eq,decide_eq_false_iff_not,Bool.not_eq_true',Bool.not_eq_false'] at *
 all_goals first
  |contradiction
  |exact PSub.of_eq (by simp only [limitV];(repeat' split)<;>first|rfl|omega|contradiction|(simp_all;done))
  |trace_state
end Go.Abs
namespace Go.Abs
open Go.Proofs
set_option maxRecDepth 10000
def memN (l:List ByteArray) (n:Nat) (s:ByteArray):Bool:=(List.range n).any fun j=>decide (l.getD j default=s)
theorem Z0l7 {l:List ByteArray} {n k:Nat} {s:ByteArray} (hk:k < n) (h:l.getD k default=s):memN l n s=true:=by
 simp only [memN,List.any_eq_true,List.mem_range,decide_eq_true_eq]
 exact⟨k,hk,h⟩
theorem Z0l3 {l:List ByteArray} {n:Nat} {s:ByteArray} (h:∀ j,j < n→l.getD j default≠s):memN l n s=false:=by
 rw [←Bool.not_eq_true]
 simp only [memN,List.any_eq_true,List.mem_range,decide_eq_true_eq]
 rintro ⟨j,hj,e⟩
 exact h j hj e
theorem Z0h3 {l:List ByteArray} {i:Nat} (hi:i < l.length):idxOf l (l.getD i default) < (i:Int)↔memN l i (l.getD i default)=true:=by
 constructor
 ·intro h
  by_cases hm:memN l i (l.getD i default)=true
  ·exact hm
  ·exfalso
   have hn:∀ j,j < i→l.getD j default≠l.getD i default:=fun j hj e=>hm (Z0l7 hj e)
   rw [Z0h6 (k:=i) hi rfl hn] at h
   omega
 ·intro h
  simp only [memN,List.any_eq_true,List.mem_range,decide_eq_true_eq] at h
  have hex:∃ j,j < i∧l.getD j default=l.getD i default:=h
  have:∃ k,k < i∧l.getD k default=l.getD i default∧∀ j,j < k→l.getD j default≠l.getD i default:=by
   obtain⟨j,hj,e⟩:=hex
   clear h
   induction j using Nat.strongRecOn with
   |_ j ih=>
    by_cases hb:∃ m,m < j∧l.getD m default=l.getD i default
    ·obtain⟨m,hm,e2⟩:=hb
     exact ih m hm (by omega) e2
    ·exact⟨j,hj,e,fun m hm e2=>hb ⟨m,hm,e2⟩⟩
  obtain⟨k,hk,e,hf⟩:=this
  rw [Z0h6 (k:=k) (by omega) e hf]
  omega
end Go.Abs
namespace Go.Abs
open Go.Proofs
set_option maxRecDepth 10000
theorem Z05t (n:Nat) (g:Nat→List PV) (hn:n≤1048576):AC Tryz.prog 57 [.pv (.ro 1 n g)] [] (.own 0) [(0,.row 1 n g)]:=by
 refine AC.nil_split (pre:=[]) (post:=[]) ?_ (fun h=>?_)
 ·refine AC.of_awp_own (T:=T) T_ok hm Tryz.call57 Tryz.func57 rfl rfl rfl ?_
  conv=>whnf
  refine⟨by omega,?_⟩
  conv=>whnf
  exact⟨by omega,fun i hi=>by simpa using PSubs.rfl⟩
 ·refine AC.of_awp_own (T:=T) T_ok hm Tryz.call57 Tryz.func57 rfl rfl rfl ?_
  conv=>whnf
  exact h
theorem Z05q (n:Nat) (g:Nat→List PV) (hn:n≤1048576):AC Tryz.prog 306 [.pv (.ro 7 n g)] [] (.own 0) [(0,.row 7 n g)]:=by
 refine AC.nil_split (pre:=[]) (post:=[]) ?_ (fun h=>?_)
 ·refine AC.of_awp_own (T:=T) T_ok hm Tryz.call306 Tryz.func306 rfl rfl rfl ?_
  conv=>whnf
  refine⟨by omega,?_⟩
  conv=>whnf
  exact⟨by omega,fun i hi=>by simpa using PSubs.rfl⟩
 ·refine AC.of_awp_own (T:=T) T_ok hm Tryz.call306 Tryz.func306 rfl rfl rfl ?_
  conv=>whnf
  exact h
theorem Z05s (n:Nat) (g:Nat→List PV) (hn:n≤1048576):AC Tryz.prog 296 [.pv (.ro 3 n g)] [] (.own 0) [(0,.row 3 n g)]:=by
 refine AC.nil_split (pre:=[]) (post:=[]) ?_ (fun h=>?_)
 ·refine AC.of_awp_own (T:=T) T_ok hm Tryz.call296 Tryz.func296 rfl rfl rfl ?_
  conv=>whnf
  refine⟨by omega,?_⟩
  conv=>whnf
  exact⟨by omega,fun i hi=>by simpa using PSubs.rfl⟩
 ·refine AC.of_awp_own (T:=T) T_ok hm Tryz.call296 Tryz.func296 rfl rfl rfl ?_
  conv=>whnf
  exact h
theorem Z05p (n:Nat) (g:Nat→List PV) (hn:n≤1048576):AC Tryz.prog 243 [.pv (.ro 3 n g)] [] (.own 0) [(0,.row 3 n g)]:=by
 refine AC.nil_split (pre:=[]) (post:=[]) ?_ (fun h=>?_)
 ·refine AC.of_awp_own (T:=T) T_ok hm Tryz.call243 Tryz.func243 rfl rfl rfl ?_
  conv=>whnf
  refine⟨by omega,?_⟩
  conv=>whnf
  exact⟨by omega,fun i hi=>by simpa using PSubs.rfl⟩
 ·refine AC.of_awp_own (T:=T) T_ok hm Tryz.call243 Tryz.func243 rfl rfl rfl ?_
  conv=>whnf
  exact h
end Go.Abs
namespace Go.Abs
open Go.Proofs
set_option maxRecDepth 10000
def noAttr:Attr:=⟨⟨#[]⟩,0,0,0,[],false,false⟩
def smallL {α:Type} (l:List α):Prop:=l.length≤1048576
def smallA (a:Attr):Prop:=smallL a.enum
def smallC (c:Cmd):Prop:=smallA c.param∧smallL c.effects
def smallK (c:Clu):Prop:=smallL c.attrs∧(∀ i,smallA (c.attrs.getD i default))∧smallL c.commands∧(∀ i,smallC (c.commands.getD i default))∧smallL c.events
def firstI (n:Nat) (p:Nat→Bool):Nat:=match (List.range n).find? p with|some i=>i|none=>n
theorem Z0ei {n k:Nat} {p:Nat→Bool} (hk:k < n) (h:p k=true) (hf:∀ j,j < k→p j=false):firstI n p=k:=by
 have:(List.range n).find? p=some k:=by
  rw [List.find?_range_eq_some]
  exact⟨h,by simpa using hk,fun j hj=>by simpa using hf j hj⟩
 simp only [firstI,this]
theorem Z0el {n:Nat} {p:Nat→Bool} (hf:∀ j,j < n→p j=false):firstI n p=n:=by
 have:(List.range n).find? p=none:=by
  rw [List.find?_eq_none]
  intro x hx
  simpa using hf x (by simpa using hx)
 simp only [firstI,this]
def attrAt (l:List Attr) (s:ByteArray):Nat:=firstI l.length fun i=>decide ((l.getD i default).name=s)
def attrOf (l:List Attr) (s:ByteArray):Attr:=if attrAt l s < l.length then l.getD (attrAt l s) default else noAttr
theorem Z005 (c:Clu) (s:ByteArray) (hc:smallK c):AC Tryz.prog 194 [.pv (.agg (cClu c)),.pv (vstr s)] [] (.pv (.tup [.agg (cAttr (attrOf c.attrs s)),vbool (decide (attrAt c.attrs s < c.attrs.length))])) []:=by
 have hl:c.attrs.length≤1048576:=hc.1
 refine AC.of_awp (T:=T) T_ok hm Tryz.call194 Tryz.func194 rfl rfl rfl ?_
 conv=>whnf
 refine⟨Nat,fun k=>k≤c.attrs.length∧∀ j,j < k→decide ((c.attrs.getD j default).name=s)=false,fun k=>⟨[(1,.pv (vstr s)),(4,.ptr 4 0),(9,.pv (roL 7 cAttr c.attrs)),(10,.pv (vint c.attrs.length)),(11,.pv (vint k))],[(4,.pbox (cAttr noAttr))]⟩,fun k=>c.attrs.length - k,0,[],⟨Nat.zero_le _,fun j h=>absurd h (by omega)⟩,?_,fun k hk=>?_⟩
 ·exact⟨⟨⟨.rfl,.rfl,.rfl,.rfl,PSub.nil_ro _ _,PSub.lit_sb rfl,PSub.lit_sb rfl,trivial⟩,trivial⟩,.rfl,rfl,.rfl,.rfl,.rfl⟩
 conv=>whnf
 refine⟨fun h=>?_,fun h=>?_⟩
 ·simp only [decide_eq_true_eq] at h
  conv=>whnf
  refine⟨by omega,?_⟩
  conv=>whnf
  refine⟨fun h2=>?_,fun h2=>?_⟩
  ·conv=>whnf
   refine .inr (.inl ⟨_,_,_,Z05t _ _ (hc.2.1 k),?_⟩)
   conv=>whnf
   have ea:attrAt c.attrs s=k:=Z0ei (by omega) h2 hk.2
   have hlt:k < c.attrs.length:=by omega
   refine⟨?_,?_⟩
   ·conv=>whnf
    exact PSub.of_eq (by rw [attrOf,ea,if_pos hlt];rfl)
   ·conv=>whnf
    exact PSub.lit_sb (by rw [ea];simp [hlt])
  ·conv=>whnf
   refine .inl ⟨wrap64 (by omega),?_⟩
   conv=>whnf
   refine⟨k+1,[],⟨by omega,fun j hj=>?_⟩,by dsimp only;omega,⟨PSubs.rfl,trivial⟩,.rfl,rfl,.rfl,.rfl,.rfl⟩
   by_cases e:j=k
   ·subst e;exact h2
   ·exact hk.2 j (by omega)
 ·conv=>whnf
  simp only [decide_eq_false_iff_not] at h
  have ea:attrAt c.attrs s=c.attrs.length:=Z0el fun j hj=>hk.2 j (by omega)
  refine⟨?_,?_⟩
  ·conv=>whnf
   rw [attrOf,ea,if_neg (by omega)]
   exact PSub.agg ⟨.rfl,.rfl,.rfl,.rfl,PSub.nil_ro _ _,PSub.lit_sb rfl,PSub.lit_sb rfl,trivial⟩
  ·conv=>whnf
   exact PSub.lit_sb (by rw [ea];simp)
def manyE (l:List Cmd):Bool:=(List.range l.length).any fun i=>decide (12 < (l.getD i default).effects.length)
theorem Z0kv {l:List Cmd} {k:Nat} (hk:k < l.length) (h:12 < (l.getD k default).effects.length):manyE l=true:=by
 simp only [manyE,List.any_eq_true,List.mem_range,decide_eq_true_eq]
 exact⟨k,hk,h⟩
theorem Z0ku {l:List Cmd} (h:∀ j,j < l.length→¬ 12 < (l.getD j default).effects.length):manyE l=false:=by
 rw [←Bool.not_eq_true]
 simp only [manyE,List.any_eq_true,List.mem_range,decide_eq_true_eq]
 rintro ⟨j,hj,e⟩
 exact h j hj e
def wideB (c:Clu):Bool:=decide (12 < c.attrs.length) || decide (12 < c.commands.length) || decide (12 < c.events.length) || manyE c.commands
theorem Z00i (c:Clu) (hc:smallK c):AC Tryz.prog 186 [.pv (.agg (cClu c))] [] (.pv (vbool (wideB c))) []:=by
 have hl:c.commands.length≤1048576:=hc.2.2.1
 refine AC.of_awp (T:=T) T_ok hm Tryz.call186 Tryz.func186 rfl rfl rfl ?_
 conv=>whnf
 refine⟨Nat,fun k=>k≤c.commands.length∧∀ j,j < k→¬ 12 < (c.commands.getD j default).effects.length,fun k=>⟨[(1,.ptr 1 0),(6,.pv (roL 9 cCmd c.commands)),(7,.pv (vint c.commands.length)),(8,.pv (vint k))],[(1,.pbox (cClu c))]⟩,fun k=>c.commands.length - k,0,[],⟨Nat.zero_le _,fun j h=>absurd h (by omega)⟩,⟨⟨PSubs.rfl,trivial⟩,rfl,.rfl,.rfl,.rfl⟩,fun k hk=>?_⟩
 conv=>whnf
 refine⟨fun h=>?_,fun h=>?_⟩
 ·simp only [decide_eq_true_eq] at h
  conv=>whnf
  refine⟨by omega,?_⟩
  conv=>whnf
  refine⟨fun h2=>?_,fun h2=>?_⟩
  ·conv=>whnf
   simp only [decide_eq_true_eq,Int.toNat_natCast] at h2
   exact PSub.lit_sb (by rw [wideB,Z0kv (k:=k) (by omega) (by omega)];simp)
  ·conv=>whnf
   simp only [decide_eq_false_iff_not,Int.toNat_natCast] at h2
   refine .inl ⟨wrap64 (by omega),?_⟩
   conv=>whnf
   refine⟨k+1,[],⟨by omega,fun j hj=>?_⟩,by dsimp only;omega,⟨PSubs.rfl,trivial⟩,rfl,.rfl,.rfl,.rfl⟩
   by_cases e:j=k
   ·subst e;omega
   ·exact hk.2 j (by omega)
 ·simp only [decide_eq_false_iff_not] at h
  have em:manyE c.commands=false:=Z0ku fun j hj=>hk.2 j (by omega)
  have e0:wideB c=(decide (12 < c.attrs.length) || decide (12 < c.commands.length) || decide (12 < c.events.length)):=by rw [wideB,em];simp
  rw [e0]
  conv=>whnf
  iterate 3 (all_goals first|(refine⟨fun h=>?_,fun h=>?_⟩<;>(conv=>whnf))|skip)
  all_goals simp only [decide_eq_true_eq,decide_eq_false_iff_not] at *
  all_goals first
   |exact PSub.lit_sb (by symm;simp;omega)
   |exact PSub.sb (by rw [Bool.eq_iff_iff];simp;omega)
   |trace_state
end Go.Abs
namespace Go.Abs
open Go.Proofs
set_option maxRecDepth 10000
theorem Z0k7 {α:Type} [Inhabited α] {a b:List α} (hl:a.length=b.length) (h:∀ i,i < a.length→a.getD i default=b.getD i default):a=b:=by
 apply List.ext_getElem hl
 intro i h1 h2
 have:=h i h1
 simpa [List.getD,h1,h2] using this
theorem Z05z (a b:List ByteArray) (ha:a.length≤1048576):AC Tryz.prog 270 [.pv (roL 1 cstr a),.pv (roL 1 cstr b)] [] (.pv (vbool (decide (a=b)))) []:=by
 refine AC.of_awp (T:=T) T_ok hm Tryz.call270 Tryz.func270 rfl rfl rfl ?_
 conv=>whnf
 refine⟨fun h=>?_,fun h=>?_⟩
 ·conv=>whnf
  simp only [Bool.not_eq_true',decide_eq_false_iff_not] at h
  exact PSub.lit_sb (by symm;simp only [decide_eq_false_iff_not];intro e;exact h (by rw [e]))
 conv=>whnf
 simp only [Bool.not_eq_false',decide_eq_true_eq] at h
 refine⟨Nat,fun k=>k≤a.length∧∀ j,j < k→a.getD j default=b.getD j default,fun k=>⟨[(0,.pv (roL 1 cstr a)),(1,.pv (roL 1 cstr b)),(12,.pv (vint a.length)),(13,.pv (vint k))],[]⟩,fun k=>a.length - k,0,[],⟨Nat.zero_le _,fun j h=>absurd h (by omega)⟩,⟨.rfl,.rfl,.rfl,.rfl⟩,fun k hk=>?_⟩
 conv=>whnf
 refine⟨fun h2=>?_,fun h2=>?_⟩
 ·simp only [decide_eq_true_eq] at h2
  conv=>whnf
  refine⟨by kernel_rfl,?_⟩
  conv=>whnf
  refine⟨by omega,?_⟩
  conv=>whnf
  refine⟨by omega,?_⟩
  conv=>whnf
  refine⟨by kernel_rfl,?_⟩
  conv=>whnf
  refine⟨fun h3=>?_,fun h3=>?_⟩
  ·conv=>whnf
   simp only [Bool.not_eq_true',decide_eq_false_iff_not] at h3
   exact PSub.lit_sb (by symm;simp only [decide_eq_false_iff_not];intro e;exact h3 (by rw [e]))
  ·conv=>whnf
   simp only [Bool.not_eq_false',decide_eq_true_eq,Int.toNat_natCast] at h3
   refine .inl ⟨wrap64 (by omega),?_⟩
   conv=>whnf
   refine⟨k+1,[],⟨by omega,fun j hj=>?_⟩,by dsimp only;omega,.rfl,.rfl,.rfl,.rfl⟩
   by_cases e:j=k
   ·subst e;exact h3
   ·exact hk.2 j (by omega)
 ·conv=>whnf
  simp only [decide_eq_false_iff_not] at h2
  exact PSub.lit_sb (by symm;simp only [decide_eq_true_eq];exact Z0k7 (by omega) fun i hi=>hk.2 i (by omega))
theorem Z02j (a b:List ByteArray) (ha:a.length≤1048576):AC Tryz.prog 39 [.pv (roL 1 cstr a),.pv (roL 1 cstr b)] [] (.pv (vbool (decide (a=b)))) []:=by
 refine AC.of_awp (T:=T) T_ok hm Tryz.call39 Tryz.func39 rfl rfl rfl ?_
 conv=>whnf
 refine⟨fun h=>?_,fun h=>?_⟩
 ·conv=>whnf
  simp only [Bool.not_eq_true',decide_eq_false_iff_not] at h
  exact PSub.lit_sb (by symm;simp only [decide_eq_false_iff_not];intro e;exact h (by rw [e]))
 conv=>whnf
 simp only [Bool.not_eq_false',decide_eq_true_eq] at h
 refine⟨Nat,fun k=>k≤a.length∧∀ j,j < k→a.getD j default=b.getD j default,fun k=>⟨[(0,.pv (roL 1 cstr a)),(1,.pv (roL 1 cstr b)),(5,.pv (vint k))],[]⟩,fun k=>a.length - k,0,[],⟨Nat.zero_le _,fun j h=>absurd h (by omega)⟩,⟨.rfl,.rfl,.rfl⟩,fun k hk=>?_⟩
 conv=>whnf
 refine⟨fun h2=>?_,fun h2=>?_⟩
 ·simp only [decide_eq_true_eq] at h2
  conv=>whnf
  refine⟨by kernel_rfl,?_⟩
  conv=>whnf
  refine⟨by omega,?_⟩
  conv=>whnf
  refine⟨by omega,?_⟩
  conv=>whnf
  refine⟨by kernel_rfl,?_⟩
  conv=>whnf
  refine⟨fun h3=>?_,fun h3=>?_⟩
  ·conv=>whnf
   simp only [Bool.not_eq_true',decide_eq_false_iff_not] at h3
   exact PSub.lit_sb (by symm;simp only [decide_eq_false_iff_not];intro e;exact h3 (by rw [e]))
  ·conv=>whnf
   simp only [Bool.not_eq_false',decide_eq_true_eq,Int.toNat_natCast] at h3
   refine .inl ⟨wrap64 (by omega),?_⟩
   conv=>whnf
   refine⟨k+1,[],⟨by omega,fun j hj=>?_⟩,by dsimp only;omega,.rfl,.rfl,.rfl⟩
   by_cases e:j=k
   ·subst e;exact h3
   ·exact hk.2 j (by omega)
 ·conv=>whnf
  simp only [decide_eq_false_iff_not] at h2
  exact PSub.lit_sb (by symm;simp only [decide_eq_true_eq];exact Z0k7 (by omega) fun i hi=>hk.2 i (by omega))
theorem Z05x (l:List ByteArray) (n:Nat) (x:ByteArray) (hl:l.length≤1048576):AC Tryz.prog 135 [.pv (roL 1 cstr l),.pv (vstr x)] [] (.pv (vbool (decide (0≤idxOf l x)))) []:=by
 refine AC.of_awp (T:=T) T_ok hm Tryz.call135 Tryz.func135 rfl rfl rfl ?_
 conv=>whnf
 refine .inl ⟨_,Z066 l x hl,?_⟩
 conv=>whnf
 exact PSub.rfl
end Go.Abs
namespace Go.Abs
open Go.Proofs
set_option maxRecDepth 10000
def idxN (l:List ByteArray) (n:Nat) (x:ByteArray):Int:=if firstI n (fun i=>decide (l.getD i default=x)) < n then (firstI n (fun i=>decide (l.getD i default=x)):Int) else -1
theorem Z067 (l:List ByteArray) (n:Nat) (x:ByteArray) (hl:n≤1048576):AC Tryz.prog 189 [.pv (.ro 1 n fun i=>cstr (l.getD i default)),.pv (vstr x)] [] (.pv (vint (idxN l n x))) []:=by
 refine AC.of_awp (T:=T) T_ok hm Tryz.call189 Tryz.func189 rfl rfl rfl ?_
 conv=>whnf
 refine⟨Nat,fun k=>k≤n∧∀ j,j < k→decide (l.getD j default=x)=false,fun k=>⟨[(0,.pv (.ro 1 n fun i=>cstr (l.getD i default))),(1,.pv (vstr x)),(7,.pv (vint n)),(8,.pv (vint k))],[]⟩,fun k=>n - k,0,[],⟨Nat.zero_le _,fun j h=>absurd h (by omega)⟩,⟨.rfl,.rfl,.rfl,.rfl⟩,fun k hk=>?_⟩
 conv=>whnf
 refine⟨fun h=>?_,fun h=>?_⟩
 ·simp only [decide_eq_true_eq] at h
  refine⟨by omega,?_⟩
  conv=>whnf
  refine⟨fun h2=>?_,fun h2=>?_⟩
  ·conv=>whnf
   simp only [decide_eq_true_eq,Int.toNat_natCast] at h2
   have e:firstI n (fun i=>decide (l.getD i default=x))=k:=Z0ei (by omega) (by simpa using h2.symm) hk.2
   exact PSub.int (by rw [idxN,e,if_pos (by omega)])
  ·conv=>whnf
   refine .inl ⟨wrap64 (by omega),?_⟩
   conv=>whnf
   simp only [decide_eq_false_iff_not,Int.toNat_natCast] at h2
   refine⟨k+1,[],⟨by omega,fun j hj=>?_⟩,by dsimp only;omega,.rfl,.rfl,.rfl,.rfl⟩
   by_cases e:j=k
   ·subst e;simpa using fun e=>h2 e.symm
   ·exact hk.2 j (by omega)
 ·conv=>whnf
  simp only [decide_eq_false_iff_not] at h
  have e:firstI n (fun i=>decide (l.getD i default=x))=n:=Z0el fun j hj=>hk.2 j (by omega)
  exact PSub.int (by rw [idxN,e,if_neg (by omega)])
theorem Z0h1 {l:List ByteArray} {n:Nat} {x:ByteArray}:decide (0≤idxN l n x)=memN l n x:=by
 by_cases h:∃ j,j < n∧l.getD j default=x
 ·obtain⟨j,hj,e⟩:=h
  rw [Z0l7 hj e]
  unfold idxN
  split
  ·simp
  ·rename_i hn
   exfalso
   have hnone:(List.range n).find? (fun i=>decide (l.getD i default=x))=none:=by
    cases hf:(List.range n).find? (fun i=>decide (l.getD i default=x)) with
    |none=>rfl
    |some i=>
     exfalso
     apply hn
     simp only [firstI,hf]
     have:=List.mem_of_find?_eq_some hf
     simpa using this
   rw [List.find?_eq_none] at hnone
   exact hnone j (by simpa using hj) (by simpa using e)
 ·rw [Z0l3 fun j hj e=>h ⟨j,hj,e⟩]
  have e:firstI n (fun i=>decide (l.getD i default=x))=n:=Z0el fun j hj=>by simpa using fun e=>h ⟨j,hj,e⟩
  unfold idxN
  rw [e,if_neg (by omega)]
  simp
theorem Z05y (l:List ByteArray) (n:Nat) (x:ByteArray) (hl:n≤1048576):AC Tryz.prog 135 [.pv (.ro 1 n fun i=>cstr (l.getD i default)),.pv (vstr x)] [] (.pv (vbool (memN l n x))) []:=by
 refine AC.of_awp (T:=T) T_ok hm Tryz.call135 Tryz.func135 rfl rfl rfl ?_
 conv=>whnf
 refine .inl ⟨_,Z067 l n x hl,?_⟩
 conv=>whnf
 exact PSub.sb Z0h1
end Go.Abs
namespace Go.Abs
open Go.Proofs
set_option maxRecDepth 10000
def alikeB (a b:Attr):Bool:=decide (a.kind=b.kind) && decide (a.enum=b.enum)
theorem Z00b (a b:Attr) (ha:smallA a):AC Tryz.prog 269 [.pv (.agg (cAttr a)),.pv (.agg (cAttr b))] [] (.pv (vbool (alikeB a b))) []:=by
 refine AC.of_awp (T:=T) T_ok hm Tryz.call269 Tryz.func269 rfl rfl rfl ?_
 conv=>whnf
 refine⟨fun h=>?_,fun h=>?_⟩
 ·conv=>whnf
  refine .inl ⟨_,Z05z a.enum b.enum ha,?_⟩
  conv=>whnf
  exact PSub.sb (by simp [alikeB,h])
 ·conv=>whnf
  exact PSub.lit_sb (by simp [alikeB,h])
end Go.Abs
namespace Go.Abs
open Go.Proofs
set_option maxRecDepth 10000
def cmdAt (l:List Cmd) (s:ByteArray):Nat:=firstI l.length fun i=>decide ((l.getD i default).name=s)
def noCmd:Cmd:=⟨⟨#[]⟩,noAttr,[]⟩
def cmdOf (l:List Cmd) (s:ByteArray):Cmd:=if cmdAt l s < l.length then l.getD (cmdAt l s) default else noCmd
theorem Z007 (c:Clu) (s:ByteArray) (hc:smallK c):AC Tryz.prog 196 [.pv (.agg (cClu c)),.pv (vstr s)] [] (.pv (.tup [.agg (cCmd (cmdOf c.commands s)),vbool (decide (cmdAt c.commands s < c.commands.length))])) []:=by
 have hl:c.commands.length≤1048576:=hc.2.2.1
 refine AC.of_awp (T:=T) T_ok hm Tryz.call196 Tryz.func196 rfl rfl rfl ?_
 conv=>whnf
 refine loop_k (ι:=Nat) [1,4,9,10] [4] (fun k=>k≤c.commands.length∧(∀ j,j < k→decide ((c.commands.getD j default).name=s)=false)) (fun k=>c.commands.length - k) 0 (fun k=>[(11,.pv (vint k))]) (fun _=>[]) [] ⟨Nat.zero_le _,fun j h=>absurd h (by omega)⟩ ?_ (fun k hk=>?_)
 ·(repeat' (first|exact PSub.rfl|exact rfl|exact PSubs.rfl|exact trivial|exact PSub.lit_sb rfl|refine And.intro ?_ ?_))
 obtain⟨hkn,hinv⟩:=hk
 conv=>whnf
 repeat (any_goals (first
  |(refine⟨fun(h:(_:Bool)=true)=>?_,fun(h:(_:Bool)=false)=>?_⟩<;>(try simp only [Q0,Q1,Q2,Q3,Q4,Q5,Q6,Q7,Q8,reduceCtorEq] at h)<;>(conv=>whnf))
  |(refine .inr (.inl ⟨_,_,_,Z05t _ _ (hc.2.2.2.1 k).1,?_⟩);conv=>whnf)
  |(refine .inr (.inl ⟨_,_,_,Z05p _ _ (hc.2.2.2.1 k).2,?_⟩);conv=>whnf)
  |(refine And.intro (by(try simp only [Int.toNat_natCast]);omega) ?_;conv=>whnf)
  |(refine .inl ⟨wrap64 (by omega),?_⟩;conv=>whnf)))
 ·have ea:cmdAt c.commands s=k:=Z0ei (by omega) (by simpa using h) hinv
  have hlt:k < c.commands.length:=by omega
  refine⟨?_,?_⟩<;>(conv=>whnf)
  ·exact PSub.of_eq (by rw [cmdOf,ea,if_pos hlt];rfl)
  ·exact PSub.lit_sb (by rw [ea];simp [hlt])
 ·refine⟨k+1,[],⟨by omega,?_⟩,by first|omega|(dsimp only;omega),?_⟩
  rotate_left
  ·(repeat' (first|exact PSub.rfl|exact rfl|exact PSubs.rfl|exact trivial|exact PSub.lit_sb rfl|refine And.intro ?_ ?_))
  intro j hj
  by_cases e:j=k
  ·subst e;simpa using h
  ·exact hinv j (by omega)
 ·have ea:cmdAt c.commands s=c.commands.length:=Z0el fun j hj=>hinv j (by omega)
  refine⟨?_,?_⟩<;>(conv=>whnf)
  ·rw [cmdOf,ea,if_neg (by omega)]
   exact PSub.agg ⟨.rfl,.rfl,.rfl,.rfl,.rfl,PSub.nil_ro _ _,PSub.lit_sb rfl,PSub.lit_sb rfl,PSub.nil_ro _ _,trivial⟩
  ·exact PSub.lit_sb (by rw [ea];simp)
end Go.Abs
namespace Go.Abs
open Go.Proofs
set_option maxRecDepth 10000
def satI (n:Int):Int:=min (max n (-1099511627776)) 1099511627776
theorem Z01y (n:Int):AC Tryz.prog 250 [.pv (vint n)] [] (.pv (vint (satI n))) []:=by
 refine AC.of_awp (T:=T) T_ok hm Tryz.call250 Tryz.func250 rfl rfl rfl ?_
 conv=>whnf
 exact PSub.int (by simp only [satI];(repeat' split)<;>omega)
def smallN (n:Int):Prop:=-4611686018427387904≤n∧n≤4611686018427387903
theorem Z01v (a b:Int) (ha:smallN a) (hb:smallN b):AC Tryz.prog 213 [.pv (vint a),.pv (vint b)] [] (.pv (vint (satI (a+b)))) []:=by
 obtain⟨h1,h2⟩:=ha
 obtain⟨h3,h4⟩:=hb
 refine AC.of_awp (T:=T) T_ok hm Tryz.call213 Tryz.func213 rfl rfl rfl ?_
 conv=>whnf
 refine .inl ⟨wrap64 (by omega),?_⟩
 conv=>whnf
 repeat (any_goals (first
  |(refine⟨fun(h:(_:Bool)=true)=>?_,fun(h:(_:Bool)=false)=>?_⟩<;>(try simp only [Q0,Q1,Q2,Q3,Q4,Q5,Q6,Q7,Q8,reduceCtorEq] at h)<;>(conv=>whnf))
  |(refine .inl ⟨_,Z01y (a+b),?_⟩;conv=>whnf)))
 all_goals (try simp only [Q0,Q1,Q2,Q3,Q4,Q5,Q6,Q7,Q8,reduceCtorEq] at *)
 all_goals first
  |contradiction
  |(exfalso;omega)
  |exact PSub.rfl
  |(refine PSub.int ?_;simp only [satI];(repeat' split)<;>first|rfl|omega|(simp_all [-List.getD_eq_getElem?_getD];done)|(simp_all [-List.getD_eq_getElem?_getD];omega))
  |(refine PSub.sb ?_;simp_all [satI,-List.getD_eq_getElem?_getD];done)
  |(refine PSub.lit_sb ?_;simp_all [satI,-List.getD_eq_getElem?_getD];done)
  |(refine PSub.sb_lit ?_;simp_all [satI,-List.getD_eq_getElem?_getD];done)
  |(refine PSub.sb ?_;rw [Bool.eq_iff_iff];simp_all [satI,-List.getD_eq_getElem?_getD];done)
  |(refine PSub.lit_sb ?_;rw [Bool.eq_iff_iff];simp_all [satI,-List.getD_eq_getElem?_getD];done)
  |(refine PSub.sb_lit ?_;rw [Bool.eq_iff_iff];simp_all [satI,-List.getD_eq_getElem?_getD];done)
  |skip
def suitsB (x:Eff) (a p:Attr):Bool:=if x.kind=1 then decide (a.kind≠4) && decide (fitsE a ⟨a.kind,x.n,⟨#[]⟩⟩=0) else if x.kind=2 then alikeB a p else if x.kind=3 then decide (a.kind=2) else decide (a.kind=1)
theorem Z00h (x:Eff) (a p:Attr) (ha:smallA a):AC Tryz.prog 262 [.pv (.agg (cEff x)),.pv (.agg (cAttr a)),.pv (.agg (cAttr p))] [] (.pv (vbool (suitsB x a p))) []:=by
 refine AC.of_awp (T:=T) T_ok hm Tryz.call262 Tryz.func262 rfl rfl rfl ?_
 conv=>whnf
 repeat (any_goals (first
  |(refine⟨fun(h:(_:Bool)=true)=>?_,fun(h:(_:Bool)=false)=>?_⟩<;>(try simp only [Q0,Q1,Q2,Q3,Q4,Q5,Q6,Q7,Q8,reduceCtorEq] at h)<;>(conv=>whnf))
  |(refine .inl ⟨_,Z07d a ⟨a.kind,x.n,⟨#[]⟩⟩ ha,?_⟩;conv=>whnf)
  |(refine .inl ⟨_,Z00b a p ha,?_⟩;conv=>whnf)))
 all_goals (try simp only [Q0,Q1,Q2,Q3,Q4,Q5,Q6,Q7,Q8,reduceCtorEq] at *)
 all_goals first
  |contradiction
  |(exfalso;omega)
  |exact PSub.rfl
  |(refine PSub.int ?_;simp only [suitsB];(repeat' split)<;>first|rfl|omega|(simp_all [-List.getD_eq_getElem?_getD];done)|(simp_all [-List.getD_eq_getElem?_getD];omega))
  |(refine PSub.sb ?_;simp_all [suitsB,-List.getD_eq_getElem?_getD];done)
  |(refine PSub.lit_sb ?_;simp_all [suitsB,-List.getD_eq_getElem?_getD];done)
  |(refine PSub.sb_lit ?_;simp_all [suitsB,-List.getD_eq_getElem?_getD];done)
  |(refine PSub.sb ?_;rw [Bool.eq_iff_iff];simp_all [suitsB,-List.getD_eq_getElem?_getD];done)
  |(refine PSub.lit_sb ?_;rw [Bool.eq_iff_iff];simp_all [suitsB,-List.getD_eq_getElem?_getD];done)
  |(refine PSub.sb_lit ?_;rw [Bool.eq_iff_iff];simp_all [suitsB,-List.getD_eq_getElem?_getD];done)
  |skip
def effE (c:Clu) (p:Attr) (x:Eff):Int:=
 if x.kind < 1∨4 < x.kind then 7 else if ¬ attrAt c.attrs x.attr < c.attrs.length then 8 else if (attrOf c.attrs x.attr).writable=false then 24
 else if suitsB x (attrOf c.attrs x.attr) p=false then 11 else if x.kind=3∧satI x.n≠x.n then 2 else if (x.kind=2∨x.kind=4)∧x.n≠0 then 4 else 0
theorem Z0tj {c:Clu} {s:ByteArray} (hc:smallK c):smallA (attrOf c.attrs s):=by
 unfold attrOf
 split
 ·exact hc.2.1 _
 ·exact Nat.zero_le _
theorem Z00c (c:Clu) (p:Attr) (x:Eff) (hc:smallK c):AC Tryz.prog 239 [.pv (.agg (cClu c)),.pv (.agg (cAttr p)),.pv (.agg (cEff x))] [] (.pv (vint (effE c p x))) []:=by
 refine AC.of_awp (T:=T) T_ok hm Tryz.call239 Tryz.func239 rfl rfl rfl ?_
 conv=>whnf
 repeat (any_goals (first
  |(refine⟨fun(h:(_:Bool)=true)=>?_,fun(h:(_:Bool)=false)=>?_⟩<;>(try simp only [Q0,Q1,Q2,Q3,Q4,Q5,Q6,Q7,Q8,reduceCtorEq] at h)<;>(conv=>whnf))
  |(refine .inl ⟨_,Z005 c x.attr hc,?_⟩;conv=>whnf)
  |(refine .inl ⟨_,Z00h x (attrOf c.attrs x.attr) p (Z0tj hc),?_⟩;conv=>whnf)
  |(refine .inl ⟨_,Z01y x.n,?_⟩;conv=>whnf)
  |(refine And.intro (show(_:Bool)=true from by kernel_rfl) ?_;conv=>whnf)))
 all_goals (try simp only [Q0,Q1,Q2,Q3,Q4,Q5,Q6,Q7,Q8,reduceCtorEq] at *)
 all_goals first
  |contradiction
  |(exfalso;omega)
  |exact PSub.rfl
  |(refine PSub.int ?_;simp only [effE];(repeat' split)<;>first|rfl|omega|(simp_all [-List.getD_eq_getElem?_getD];done)|(simp_all [-List.getD_eq_getElem?_getD];omega))
  |(refine PSub.sb ?_;simp_all [effE,-List.getD_eq_getElem?_getD];done)
  |(refine PSub.lit_sb ?_;simp_all [effE,-List.getD_eq_getElem?_getD];done)
  |(refine PSub.sb_lit ?_;simp_all [effE,-List.getD_eq_getElem?_getD];done)
  |(refine PSub.sb ?_;rw [Bool.eq_iff_iff];simp_all [effE,-List.getD_eq_getElem?_getD];done)
  |(refine PSub.lit_sb ?_;rw [Bool.eq_iff_iff];simp_all [effE,-List.getD_eq_getElem?_getD];done)
  |(refine PSub.sb_lit ?_;rw [Bool.eq_iff_iff];simp_all [effE,-List.getD_eq_getElem?_getD];done)
  |skip
def zeroA (a:Attr):Bool:=decide (a=noAttr)
theorem Z0zl {a:Attr}:zeroA a=true↔(a.name=⟨#[]⟩∧a.kind=0∧a.min=0∧a.max=0∧a.enum.length=0∧a.writable=false∧a.safety=false):=by
 obtain⟨a1,a2,a3,a4,a5,a6,a7⟩:=a
 simp [zeroA,noAttr]
theorem Z00j (a:Attr):AC Tryz.prog 238 [.pv (.agg (cAttr a))] [] (.pv (vbool (zeroA a))) []:=by
 refine AC.of_awp (T:=T) T_ok hm Tryz.call238 Tryz.func238 rfl rfl rfl ?_
 conv=>whnf
 repeat (any_goals (first
  |(refine⟨fun(h:(_:Bool)=true)=>?_,fun(h:(_:Bool)=false)=>?_⟩<;>(try simp only [Q0,Q1,Q2,Q3,Q4,Q5,Q6,Q7,Q8,reduceCtorEq] at h)<;>(conv=>whnf))))
 all_goals first|(refine PSub.sb ?_;rw [Bool.eq_iff_iff,Z0zl];simp_all;done)|(refine PSub.lit_sb ?_;rw [Bool.eq_iff_iff,Z0zl];simp_all;done)|skip
end Go.Abs
namespace Go.Abs
open Go.Proofs
set_option maxRecDepth 10000
def anyN (n:Nat) (p:Nat→Bool):Bool:=(List.range n).any p
theorem Z08e {n k:Nat} {p:Nat→Bool} (hk:k < n) (h:p k=true):anyN n p=true:=by
 simp only [anyN,List.any_eq_true,List.mem_range]
 exact⟨k,hk,h⟩
theorem Z08a {n:Nat} {p:Nat→Bool} (h:∀ j,j < n→p j=false):anyN n p=false:=by
 rw [←Bool.not_eq_true]
 simp only [anyN,List.any_eq_true,List.mem_range]
 rintro ⟨j,hj,e⟩
 rw [h j hj] at e;cases e
def cmdE (c:Clu) (i:Nat):Int:=
 if validName (c.commands.getD i default).name=false then 10 else if anyN i (fun j=>decide ((c.commands.getD j default).name=(c.commands.getD i default).name))=true then 9
 else if (c.commands.getD i default).param.kind=0∧zeroA (c.commands.getD i default).param=false then 4
 else if (c.commands.getD i default).param.kind≠0∧defE (c.commands.getD i default).param≠0 then defE (c.commands.getD i default).param
 else firstE (c.commands.getD i default).effects.length fun j=>effE c (c.commands.getD i default).param ((c.commands.getD i default).effects.getD j default)
def zAttr:List PV:=[vstr ⟨#[]⟩,vint 0,vint 0,vint 0,.val (.slice none 0 0),.val (.bool false),.val (.bool false)]
theorem Z0ls:PSubs zAttr (cAttr noAttr):=⟨.rfl,.rfl,.rfl,.rfl,PSub.nil_ro _ _,PSub.lit_sb rfl,PSub.lit_sb rfl,trivial⟩
theorem Z00f (c:Clu) (i:Nat) (hc:smallK c) (hi:i < c.commands.length):AC Tryz.prog 188 [.pv (.agg (cClu c)),.pv (vint i)] [] (.pv (vint (cmdE c i))) []:=by
 have hl:c.commands.length≤1048576:=hc.2.2.1
 have hd:=hc.2.2.2.1 i
 have hd2:(c.commands.getD i default).effects.length≤1048576:=hd.2
 refine AC.of_awp (T:=T) T_ok hm Tryz.call188 Tryz.func188 rfl rfl rfl ?_
 conv=>whnf
 refine And.intro (by omega) ?_
 conv=>whnf
 refine .inl ⟨_,Z01t (c.commands.getD i default).name,?_⟩
 conv=>whnf
 refine⟨fun h=>?_,fun h=>?_⟩<;>(try simp only [Q0,Q1,Q2,Q3,Q4,Q5,Q6,Q7,Q8,reduceCtorEq] at h)<;>(conv=>whnf)
 ·exact PSub.int (by simp [cmdE,h,-List.getD_eq_getElem?_getD])
 refine And.intro (by omega) ?_
 conv=>whnf
 have hv:=h
 refine loop_k (ι:=Nat) [2,5,24,25] [2,5] (fun k=>k≤i∧(∀ j,j < k→decide ((c.commands.getD j default).name=(c.commands.getD i default).name)=false)) (fun k=>i - k) 0 (fun k=>[(26,.pv (vint k))]) (fun _=>[]) [] ⟨Nat.zero_le _,fun j h=>absurd h (by omega)⟩ ?_ (fun k hk=>?_)
 ·(repeat' (first|exact PSub.rfl|exact rfl|exact PSubs.rfl|exact trivial|exact PSub.lit_sb rfl|refine And.intro ?_ ?_))
 obtain⟨hkn,hinv⟩:=hk
 conv=>whnf
 repeat (any_goals (first
  |(refine⟨fun(h:(_:Bool)=true)=>?_,fun(h:(_:Bool)=false)=>?_⟩<;>(try simp only [Q0,Q1,Q2,Q3,Q4,Q5,Q6,Q7,Q8,reduceCtorEq] at h)<;>(conv=>whnf))
  |(refine .inl ⟨_,Z00j (c.commands.getD i default).param,?_⟩;conv=>whnf)
  |(refine .inl ⟨_,Z07c (c.commands.getD i default).param hd.1,?_⟩;conv=>whnf)
  |(refine And.intro (by(try simp only [Int.toNat_natCast]);omega) ?_;conv=>whnf)
  |(refine .inl ⟨wrap64 (by omega),?_⟩;conv=>whnf)))
 case' refine_2.refine_2.refine_1.refine_2=>
  refine⟨k+1,[],⟨by omega,?_⟩,by first|omega|(dsimp only;omega),?_⟩
  rotate_left
  ·(repeat' (first|exact PSub.rfl|exact rfl|exact PSubs.rfl|exact trivial|exact PSub.lit_sb rfl|refine And.intro ?_ ?_))
  intro j hj
  by_cases e:j=k
  ·subst e;first|exact h|simpa [-List.getD_eq_getElem?_getD] using h|simp_all [-List.getD_eq_getElem?_getD]
  ·exact hinv j (by omega)
 ·have e:=Z08e (n:=i) (p:=fun j=>decide ((c.commands.getD j default).name=(c.commands.getD i default).name)) (k:=k) (by omega) (by simpa [-List.getD_eq_getElem?_getD] using h)
  exact PSub.int (by simp [cmdE,hv,e,-List.getD_eq_getElem?_getD])
 all_goals have ef:anyN i (fun j=>decide ((c.commands.getD j default).name=(c.commands.getD i default).name))=false:=Z08a fun j hj=>hinv j (by omega)
 all_goals try (exact PSub.int (by simp_all [cmdE,-List.getD_eq_getElem?_getD];done))
 all_goals
  have e0:cmdE c i=firstE (c.commands.getD i default).effects.length fun j=>effE c (c.commands.getD i default).param ((c.commands.getD i default).effects.getD j default):=by simp_all [cmdE,-List.getD_eq_getElem?_getD]
  rw [e0]
  clear hinv hkn
  refine loop_k (ι:=Nat) [2,5,51,52] [2,5] (fun k2=>k2≤(c.commands.getD i default).effects.length∧(∀ j,j < k2→effE c (c.commands.getD i default).param ((c.commands.getD i default).effects.getD j default)=0)) (fun k2=>(c.commands.getD i default).effects.length - k2) 0 (fun k2=>[(53,.pv (vint k2))]) (fun _=>[]) [] ⟨Nat.zero_le _,fun j h=>absurd h (by omega)⟩ ?_ (fun k2 hk=>?_)
  ·(repeat' (first|exact PSub.rfl|exact rfl|exact PSubs.rfl|exact trivial|exact PSub.lit_sb rfl|refine And.intro ?_ ?_))
  obtain⟨hkn,hinv⟩:=hk
  conv=>whnf
  repeat (any_goals (first
   |(refine⟨fun(h:(_:Bool)=true)=>?_,fun(h:(_:Bool)=false)=>?_⟩<;>(try simp only [Q0,Q1,Q2,Q3,Q4,Q5,Q6,Q7,Q8,reduceCtorEq] at h)<;>(conv=>whnf))
   |(refine .inl ⟨_,Z00c c (c.commands.getD i default).param ((c.commands.getD i default).effects.getD k2 default) hc,?_⟩;conv=>whnf)
   |(refine And.intro (by(try simp only [Int.toNat_natCast]);omega) ?_;conv=>whnf)
   |(refine .inl ⟨wrap64 (by omega),?_⟩;conv=>whnf)))
  ·exact PSub.int (by rw [Z0ef (k:=k2) (by omega) h hinv])
  ·refine⟨k2+1,[],⟨by omega,?_⟩,by first|omega|(dsimp only;omega),?_⟩
   rotate_left
   ·(repeat' (first|exact PSub.rfl|exact rfl|exact PSubs.rfl|exact trivial|exact PSub.lit_sb rfl|refine And.intro ?_ ?_))
   intro j hj
   by_cases e:j=k2
   ·subst e;first|exact h|simpa [-List.getD_eq_getElem?_getD] using h|simp_all [-List.getD_eq_getElem?_getD]
   ·exact hinv j (by omega)
  ·exact PSub.int (by rw [Z0eg fun j hj=>hinv j (by omega)])
end Go.Abs
namespace Go.Abs
open Go.Proofs
set_option maxRecDepth 10000
def attrE (l:List Attr) (i:Nat):Int:=if defE (l.getD i default)≠0 then defE (l.getD i default) else if anyN i (fun j=>decide ((l.getD j default).name=(l.getD i default).name))=true then 9 else 0
def evE (l:List ByteArray) (i:Nat):Int:=if validName (l.getD i default)=false then 10 else if memN l i (l.getD i default)=true then 9 else 0
def checkE (c:Clu):Int:=
 if validName c.name=false then 10 else if wideB c=true then 3
 else if firstE c.attrs.length (attrE c.attrs)≠0 then firstE c.attrs.length (attrE c.attrs)
 else if firstE c.commands.length (cmdE c)≠0 then firstE c.commands.length (cmdE c)
 else firstE c.events.length (evE c.events)
theorem Z006 (c:Clu) (hc:smallK c):AC Tryz.prog 128 [.pv (.agg (cClu c))] [] (.pv (vint (checkE c))) []:=by
 have hl1:c.attrs.length≤1048576:=hc.1
 have hl2:c.commands.length≤1048576:=hc.2.2.1
 have hl3:c.events.length≤1048576:=hc.2.2.2.2
 refine AC.of_awp (T:=T) T_ok hm Tryz.call128 Tryz.func128 rfl rfl rfl ?_
 conv=>whnf
 refine .inl ⟨_,Z01t c.name,?_⟩
 conv=>whnf
 refine⟨fun h=>?_,fun h=>?_⟩<;>(try simp only [Q0,Q1,Q2,Q3,Q4,Q5,Q6,Q7,Q8,reduceCtorEq] at h)<;>(conv=>whnf)
 ·exact PSub.int (by simp [checkE,h,-List.getD_eq_getElem?_getD])
 have hv:=h
 refine .inl ⟨_,Z00i c hc,?_⟩
 conv=>whnf
 refine⟨fun h=>?_,fun h=>?_⟩<;>(try simp only [Q0,Q1,Q2,Q3,Q4,Q5,Q6,Q7,Q8,reduceCtorEq] at h)<;>(conv=>whnf)
 ·exact PSub.int (by simp [checkE,h,hv,-List.getD_eq_getElem?_getD])
 have hw:=h
 refine loop_k (ι:=Nat) [1,19,20] [1] (fun k=>k≤c.attrs.length∧(∀ j,j < k→attrE c.attrs j=0)) (fun k=>c.attrs.length - k) 0 (fun k=>[(21,.pv (vint k))]) (fun _=>[]) [] ⟨Nat.zero_le _,fun j h=>absurd h (by omega)⟩ ?_ (fun k hk=>?_)
 ·(repeat' (first|exact PSub.rfl|exact rfl|exact PSubs.rfl|exact trivial|exact PSub.lit_sb rfl|refine And.intro ?_ ?_))
 obtain⟨hkn,hinv⟩:=hk
 conv=>whnf
 refine⟨fun h=>?_,fun h=>?_⟩<;>(try simp only [Q0,Q1,Q2,Q3,Q4,Q5,Q6,Q7,Q8,reduceCtorEq] at h)<;>(conv=>whnf)
 ·refine And.intro (by omega) ?_
  conv=>whnf
  refine .inl ⟨_,Z07c (c.attrs.getD k default) (hc.2.1 k),?_⟩
  conv=>whnf
  refine⟨fun h=>?_,fun h=>?_⟩<;>(try simp only [Q0,Q1,Q2,Q3,Q4,Q5,Q6,Q7,Q8,reduceCtorEq] at h)<;>(conv=>whnf)
  ·have e:attrE c.attrs k=defE (c.attrs.getD k default):=by simp [attrE,h,-List.getD_eq_getElem?_getD]
   have e2:=Z0ef (n:=c.attrs.length) (k:=k) (f:=attrE c.attrs) (by omega) (by rw [e];exact h) hinv
   rw [e] at e2
   exact PSub.int (by simp [checkE,e2,h,hv,hw,-List.getD_eq_getElem?_getD])
  have hd:=h
  refine And.intro (by omega) ?_
  conv=>whnf
  have hinv1:=hinv
  refine loop_k (ι:=Nat) [1,4,19,20,21,34,35] [1,4] (fun k2=>k2≤k∧(∀ j,j < k2→decide ((c.attrs.getD j default).name=(c.attrs.getD k default).name)=false)) (fun k2=>k - k2) 0 (fun k2=>[(36,.pv (vint k2))]) (fun _=>[]) [] ⟨Nat.zero_le _,fun j h=>absurd h (by omega)⟩ ?_ (fun k2 hk=>?_)
  ·(repeat' (first|exact PSub.rfl|exact rfl|exact PSubs.rfl|exact trivial|exact PSub.lit_sb rfl|refine And.intro ?_ ?_))
  obtain⟨hkn,hinv⟩:=hk
  conv=>whnf
  repeat (any_goals (first
   |(refine⟨fun(h:(_:Bool)=true)=>?_,fun(h:(_:Bool)=false)=>?_⟩<;>(try simp only [Q0,Q1,Q2,Q3,Q4,Q5,Q6,Q7,Q8,reduceCtorEq] at h)<;>(conv=>whnf))
   |(refine And.intro (by(try simp only [Int.toNat_natCast]);omega) ?_;conv=>whnf)
   |(refine .inl ⟨wrap64 (by omega),?_⟩;conv=>whnf)))
  ·have e0:=Z08e (n:=k) (k:=k2) (p:=fun j=>decide ((c.attrs.getD j default).name=(c.attrs.getD k default).name)) (by omega) (by simpa [-List.getD_eq_getElem?_getD] using h)
   have e:attrE c.attrs k=9:=by simp [attrE,hd,e0,-List.getD_eq_getElem?_getD]
   have e2:=Z0ef (n:=c.attrs.length) (k:=k) (f:=attrE c.attrs) (by omega) (by rw [e];decide) hinv1
   rw [e] at e2
   exact PSub.int (by simp [checkE,e2,hv,hw,-List.getD_eq_getElem?_getD])
  ·refine⟨k2+1,[],⟨by omega,?_⟩,by first|omega|(dsimp only;omega),?_⟩
   rotate_left
   ·(repeat' (first|exact PSub.rfl|exact rfl|exact PSubs.rfl|exact trivial|exact PSub.lit_sb rfl|refine And.intro ?_ ?_))
   intro j hj
   by_cases e:j=k2
   ·subst e;first|exact h|simpa [-List.getD_eq_getElem?_getD] using h|simp_all [-List.getD_eq_getElem?_getD]
   ·exact hinv j (by omega)
  ·have e0:=Z08a (n:=k) (p:=fun j=>decide ((c.attrs.getD j default).name=(c.attrs.getD k default).name)) (fun j hj=>hinv j (by omega))
   have e:attrE c.attrs k=0:=by simp [attrE,hd,e0,-List.getD_eq_getElem?_getD]
   refine⟨k+1,[],⟨by omega,?_⟩,by first|omega|(dsimp only;omega),?_⟩
   rotate_left
   ·(repeat' (first|exact PSub.rfl|exact rfl|exact PSubs.rfl|exact trivial|exact PSub.lit_sb rfl|refine And.intro ?_ ?_))
   intro j hj
   by_cases ee:j=k
   ·subst ee;exact e
   ·exact hinv1 j (by omega)
 have e1:firstE c.attrs.length (attrE c.attrs)=0:=Z0eg fun j hj=>hinv j (by omega)
 clear hinv hkn h
 refine loop_k (ι:=Nat) [1,49] [1] (fun k=>k≤c.commands.length∧(∀ j,j < k→cmdE c j=0)) (fun k=>c.commands.length - k) 0 (fun k=>[(50,.pv (vint k))]) (fun _=>[]) [] ⟨Nat.zero_le _,fun j h=>absurd h (by omega)⟩ ?_ (fun k hk=>?_)
 ·(repeat' (first|exact PSub.rfl|exact rfl|exact PSubs.rfl|exact trivial|exact PSub.lit_sb rfl|refine And.intro ?_ ?_))
 obtain⟨hkn,hinv⟩:=hk
 conv=>whnf
 refine⟨fun h=>?_,fun h=>?_⟩<;>(try simp only [Q0,Q1,Q2,Q3,Q4,Q5,Q6,Q7,Q8,reduceCtorEq] at h)<;>(conv=>whnf)
 ·refine .inl ⟨_,Z00f c k hc (by omega),?_⟩
  conv=>whnf
  refine⟨fun h=>?_,fun h=>?_⟩<;>(try simp only [Q0,Q1,Q2,Q3,Q4,Q5,Q6,Q7,Q8,reduceCtorEq] at h)<;>(conv=>whnf)
  ·have e2:=Z0ef (n:=c.commands.length) (k:=k) (f:=cmdE c) (by omega) h hinv
   exact PSub.int (by simp [checkE,e1,e2,h,hv,hw,-List.getD_eq_getElem?_getD])
  refine .inl ⟨wrap64 (by omega),?_⟩
  conv=>whnf
  refine⟨k+1,[],⟨by omega,?_⟩,by first|omega|(dsimp only;omega),?_⟩
  rotate_left
  ·(repeat' (first|exact PSub.rfl|exact rfl|exact PSubs.rfl|exact trivial|exact PSub.lit_sb rfl|refine And.intro ?_ ?_))
  intro j hj
  by_cases e:j=k
  ·subst e;first|exact h|simpa [-List.getD_eq_getElem?_getD] using h|simp_all [-List.getD_eq_getElem?_getD]
  ·exact hinv j (by omega)
 have e2:firstE c.commands.length (cmdE c)=0:=Z0eg fun j hj=>hinv j (by omega)
 have e0:checkE c=firstE c.events.length (evE c.events):=by simp [checkE,e1,e2,hv,hw,-List.getD_eq_getElem?_getD]
 rw [e0]
 clear hinv hkn h
 refine loop_k (ι:=Nat) [1,61,62] [1] (fun k=>k≤c.events.length∧(∀ j,j < k→evE c.events j=0)) (fun k=>c.events.length - k) 0 (fun k=>[(63,.pv (vint k))]) (fun _=>[]) [] ⟨Nat.zero_le _,fun j h=>absurd h (by omega)⟩ ?_ (fun k hk=>?_)
 ·(repeat' (first|exact PSub.rfl|exact rfl|exact PSubs.rfl|exact trivial|exact PSub.lit_sb rfl|refine And.intro ?_ ?_))
 obtain⟨hkn,hinv⟩:=hk
 conv=>whnf
 repeat (any_goals (first
  |(refine⟨fun(h:(_:Bool)=true)=>?_,fun(h:(_:Bool)=false)=>?_⟩<;>(try simp only [Q0,Q1,Q2,Q3,Q4,Q5,Q6,Q7,Q8,reduceCtorEq] at h)<;>(conv=>whnf))
  |(refine .inl ⟨_,Z01t (c.events.getD k default),?_⟩;conv=>whnf)
  |(refine .inl ⟨_,Z05y c.events k (c.events.getD k default) (by omega),?_⟩;conv=>whnf)
  |(refine And.intro (by(try simp only [Int.toNat_natCast]);omega) ?_;conv=>whnf)
  |(refine .inl ⟨wrap64 (by omega),?_⟩;conv=>whnf)))
 ·have e:evE c.events k=10:=by simp [evE,h,-List.getD_eq_getElem?_getD]
  exact PSub.int (by rw [Z0ef (k:=k) (by omega) (by rw [e];decide) hinv,e])
 ·rename_i h'
  have e:evE c.events k=9:=by simp [evE,h,h',-List.getD_eq_getElem?_getD]
  exact PSub.int (by rw [Z0ef (k:=k) (by omega) (by rw [e];decide) hinv,e])
 ·rename_i h'
  refine⟨k+1,[],⟨by omega,?_⟩,by first|omega|(dsimp only;omega),?_⟩
  rotate_left
  ·(repeat' (first|exact PSub.rfl|exact rfl|exact PSubs.rfl|exact trivial|exact PSub.lit_sb rfl|refine And.intro ?_ ?_))
  intro j hj
  by_cases ee:j=k
  ·subst ee;simp [evE,h,h',-List.getD_eq_getElem?_getD]
  ·exact hinv j (by omega)
 ·exact PSub.int (by rw [Z0eg fun j hj=>hinv j (by omega)])
end Go.Abs
namespace Go.Abs
open Go.Proofs
set_option maxRecDepth 10000
def smallKs (l:List Clu):Prop:=smallL l∧∀ i,smallK (l.getD i default)
def cluE (l:List Clu) (i:Nat):Int:=if checkE (l.getD i default)≠0 then checkE (l.getD i default) else if anyN i (fun j=>decide ((l.getD j default).name=(l.getD i default).name))=true then 9 else 0
def allE (l:List Clu):Int:=if 256 < l.length then 3 else firstE l.length (cluE l)
theorem Z003 (l:List Clu) (hl:smallKs l):AC Tryz.prog 80 [.pv (roL 4 cClu l)] [] (.pv (vint (allE l))) []:=by
 have hl1:l.length≤1048576:=hl.1
 refine AC.of_awp (T:=T) T_ok hm Tryz.call80 Tryz.func80 rfl rfl rfl ?_
 conv=>whnf
 refine⟨fun h=>?_,fun h=>?_⟩<;>(try simp only [Q0,Q1,Q2,Q3,Q4,Q5,Q6,Q7,Q8,reduceCtorEq] at h)<;>(conv=>whnf)
 ·exact PSub.int (by rw [allE,if_pos (by omega)])
 rw [allE,if_neg (by omega)]
 clear h
 refine loop_k (ι:=Nat) [0,11,12] [] (fun k=>k≤l.length∧(∀ j,j < k→cluE l j=0)) (fun k=>l.length - k) 0 (fun k=>[(13,.pv (vint k))]) (fun _=>[]) [] ⟨Nat.zero_le _,fun j h=>absurd h (by omega)⟩ ?_ (fun k hk=>?_)
 ·(repeat' (first|exact PSub.rfl|exact rfl|exact PSubs.rfl|exact trivial|exact PSub.lit_sb rfl|refine And.intro ?_ ?_))
 obtain⟨hkn,hinv⟩:=hk
 conv=>whnf
 repeat (any_goals (first
  |(refine⟨fun(h:(_:Bool)=true)=>?_,fun(h:(_:Bool)=false)=>?_⟩<;>(try simp only [Q0,Q1,Q2,Q3,Q4,Q5,Q6,Q7,Q8,reduceCtorEq] at h)<;>(conv=>whnf))
  |(refine .inl ⟨_,Z006 (l.getD k default) (hl.2 k),?_⟩;conv=>whnf)
  |(refine And.intro (by(try simp only [Int.toNat_natCast]);omega) ?_;conv=>whnf)))
 ·have e:cluE l k=checkE (l.getD k default):=by simp [cluE,h,-List.getD_eq_getElem?_getD]
  exact PSub.int (by rw [Z0ef (k:=k) (by omega) (by rw [e];exact h) hinv,e])
 ·have hd:=h
  have hinv1:=hinv
  refine loop_k (ι:=Nat) [0,4,11,12,13,25,26] [4] (fun k2=>k2≤k∧(∀ j,j < k2→decide ((l.getD j default).name=(l.getD k default).name)=false)) (fun k2=>k - k2) 0 (fun k2=>[(27,.pv (vint k2))]) (fun _=>[]) [] ⟨Nat.zero_le _,fun j h=>absurd h (by omega)⟩ ?_ (fun k2 hk=>?_)
  ·(repeat' (first|exact PSub.rfl|exact rfl|exact PSubs.rfl|exact trivial|exact PSub.lit_sb rfl|refine And.intro ?_ ?_))
  obtain⟨hkn,hinv⟩:=hk
  conv=>whnf
  repeat (any_goals (first
   |(refine⟨fun(h:(_:Bool)=true)=>?_,fun(h:(_:Bool)=false)=>?_⟩<;>(try simp only [Q0,Q1,Q2,Q3,Q4,Q5,Q6,Q7,Q8,reduceCtorEq] at h)<;>(conv=>whnf))
   |(refine And.intro (by(try simp only [Int.toNat_natCast]);omega) ?_;conv=>whnf)
   |(refine .inl ⟨wrap64 (by omega),?_⟩;conv=>whnf)))
  ·have e:=Z08e (n:=k) (k:=k2) (p:=fun j=>decide ((l.getD j default).name=(l.getD k default).name)) (by omega) (by simpa [-List.getD_eq_getElem?_getD] using h)
   have e:cluE l k=9:=by simp [cluE,hd,e,-List.getD_eq_getElem?_getD]
   exact PSub.int (by rw [Z0ef (k:=k) (by omega) (by rw [e];decide) hinv1,e])
  ·refine⟨k2+1,[],⟨by omega,?_⟩,by first|omega|(dsimp only;omega),?_⟩
   rotate_left
   ·(repeat' (first|exact PSub.rfl|exact rfl|exact PSubs.rfl|exact trivial|exact PSub.lit_sb rfl|refine And.intro ?_ ?_))
   intro j hj
   by_cases e:j=k2
   ·subst e;first|exact h|simpa [-List.getD_eq_getElem?_getD] using h|simp_all [-List.getD_eq_getElem?_getD]
   ·exact hinv j (by omega)
  ·have e:=Z08a (n:=k) (p:=fun j=>decide ((l.getD j default).name=(l.getD k default).name)) fun j hj=>hinv j (by omega)
   refine⟨k+1,[],⟨by omega,?_⟩,by first|omega|(dsimp only;omega),?_⟩
   rotate_left
   ·(repeat' (first|exact PSub.rfl|exact rfl|exact PSubs.rfl|exact trivial|exact PSub.lit_sb rfl|refine And.intro ?_ ?_))
   intro j hj
   by_cases ee:j=k
   ·subst ee;simp [cluE,hd,e,-List.getD_eq_getElem?_getD]
   ·exact hinv1 j (by omega)
 ·exact PSub.int (by rw [Z0eg fun j hj=>hinv j (by omega)])
end Go.Abs
