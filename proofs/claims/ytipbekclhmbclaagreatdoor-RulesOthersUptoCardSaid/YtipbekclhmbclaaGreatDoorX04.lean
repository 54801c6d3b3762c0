/- YtipbekclhmbclaaGreatDoorX04: walks and contracts. -/
import Derived.Test.YtipbekclhmbclaaGreatDoorX03
import Derived.Carry
import Derived.ProofKit
import Derived.OpenShut
import Derived.Deep.DeepHandedRow
import Derived.Lib.LaidTab
import Derived.Test.YtipbekclhmbclaaGreatDoorProg
import Derived.KernelRfl
import Derived.Laws.RangeString
import Derived.Test.YtipbekclhmbclaaGreatDoorCards
import Derived.Test.YtipbekclhmbclaaGreatDoorTie
import Derived.WalkKit

set_option linter.unusedVariables false
set_option linter.unusedSimpArgs false
set_option linter.unusedSectionVars false

namespace Go.Abs
open Go.RowKit Go.ChangeShapes
def strData{H:Type}(ss:List ByteArray):DataW H:=.agg (ss.map fun s=>.lit (.string s.data.toList))
theorem Zok{H:Type}{enc:TypeId×Value->H}{P:Program}{w:World}{base:Nat}{sp:Nat->Bool}{held:Bool}{fuel:Nat}{t e:TypeId}{n:Nat}{cs:List Value}{ss:List ByteArray}{p:List MemPlace}
  (ht:P.underlying t=some (.array n e)) (he:P.underlying e=some .string) (hce:P.cellsOf e=1) (hct:P.cellsOf t=n)
  (h:DataW.trod enc P w base sp held fuel t cs=some (strData ss,p)):cs=ss.map fun s=>Value.string s:=by
 cases fuel with
 |zero=>simp[DataW.trod]at h
 |succ fuel=>
  simp only[DataW.trod,ht,hce,hct,Nat.mul_one]at h
  split at h
  ·rename_i hl;obtain⟨xs,hm,hx⟩:=Option.map_eq_some_iff.1 h;have hxs:xs.map (·.1)=ss.map fun s=>(DataW.lit (.string s.data.toList):DataW H):=by
    have:=congrArg Prod.fst hx;simpa[strData]using this
   have hxl:xs.length=n:=by simpa using Lib.mapM_length hm
   have hzl:ss.length=n:=by
    have:=congrArg List.length hxs;simp at this;omega
   apply List.ext_getElem?;intro i
   by_cases hi:i<n
   ·obtain⟨b,hb,hf⟩:=Lib.mapM_at hm i i (by simp[hi]);obtain⟨z,hc,rfl,_⟩:=DataW.trod_string he hf;have h1:cs[i]? = some (.string z):=by
     have:=congrArg (·[0]?) hc;simpa[qm,qA]using this
    have h2:(xs.map (·.1))[i]? = some (DataW.lit (.string z.data.toList):DataW H):=by simp[hb]
    rw[hxs]at h2;simp only[qx,Option.map_eq_some_iff,DataW.lit.injEq,Lit.string.injEq]at h2;obtain⟨z',hz',e⟩:=h2;have ez:z'=z:=by
     cases z';cases z;congr 1;exact Array.toList_inj.1 e
    subst ez;simp[h1,hz']
   ·rw[List.getElem?_eq_none (by omega),List.getElem?_eq_none (by simp;omega)]
  ·cases h
theorem strTab{P:Program}{W:World}{name:String}{ss:List ByteArray}{rest:List (String×DataW Unit)}{g:Nat}{t e:TypeId}{n:Nat}
  (hg:P.globalNamed name=some g) (hty:(P.globals[g]?).map (·.type)=some t) (ht:P.underlying t=some (.array n e)) (he:P.underlying e=some .string) (hce:P.cellsOf e=1) (hct:P.cellsOf t=n) (hpos:0<ss.length)
  (h:laidMet P ((name,strData ss)::rest) W):PR W (fun _=>False) (.cell (ss.map fun s=>.val (.string s))) (.pointer (some ⟨g,0,none⟩)):=by
 obtain⟨ps,⟨g',t',cs,fuel,p,q,hg',ht',hvar,hd,_,_⟩,_⟩:=h;obtain rfl:=qN (hg.symm.trans hg');obtain rfl:=qN (hty.symm.trans ht');have hcs:=Zok ht he hce hct hd;have hcell:∀j,j<ss.length->W.cell? ⟨g,j,none⟩=some (.string (ss.getD j default)):=fun j hj=>by
  rw[World.var?_cell hg hvar j];have:cs.toList[j]? = some (.string (ss.getD j default)):=by rw[hcs];simp[List.getD,hj]
  simpa using this
 have hadd:∀j,(⟨g,0,none⟩:Addr).add j=⟨g,j,none⟩:=fun j=>by unfold Addr.add;split<;>simp_all
 refine .cell _ ⟨g,0,none⟩ (fun j=>.string (ss.getD j default)) ?_ (fun h=>h) (fun j hj=>?_) (fun j p hp=>?_)
 ·have:=hcell 0 hpos;unfold World.cell? at this
  split at this
  ·rename_i hb;exact Z0e hb
  ·cases this
 ·rw[hadd,hcell j (by simpa using hj)];exact⟨rfl,rfl⟩
 ·simp only[qx,Option.map_eq_some_iff]at hp;obtain⟨s,hs,rfl⟩:=hp;have:ss.getD j default=s:=by simp[List.getD,hs]
  rw[this];exact .val _
section
variable {H:Type} {enc:TypeId×Value->H} {P:Program}
theorem Zio(hl:laidOutB P=true){W W':World}(hb:Below W.heap.size W W'):∀ {ts:List TypeId} {vs:List Value} {ds:List (DataW H)} {ps:List MemPlace},(∀t∈ts,P.readableRec t=true∧t<P.types.size)->
  DataW.TrodAll enc P W 0 (fun _=>true) true ts vs ds ps->DataW.TrodAll enc P W' 0 (fun b=>decide (b<W.heap.size)) true ts vs ds ps
 | [],[],[],ps,_,h=>h
 |t::ts,v::vs,d::ds,ps,ht,h=>by
  obtain⟨p,q,h1,h2,rfl⟩:=h;exact⟨p,q,Below.trod hl (ht t (by simp)).1 (ht t (by simp)).2 h1 hb (fun x hx=>DataW.TrodAll.lt (ts:=[t]) (vs:=[v]) (ds:=[d]) (ps:=p) ⟨p,[],h1,rfl,by simp⟩ x hx),Zio hl hb (fun t' h'=>ht t' (by simp[h'])) h2,rfl⟩
 | [],_::_,_,_,_,h=>h.elim
 | [],[],_::_,_,_,h=>h.elim
 |_::_,[],_,_,_,h=>h.elim
 |_::_,_::_,[],_,_,h=>h.elim
theorem Zr2{f:Func}{s:ChangeSpec}{W W':World}{args:Array Value}{ds gs:List (DataW H)}{before:List MemPlace}{tb:TypeId}(hl:laidOutB P=true)(hr:∀t∈f.params.toList,P.readableRec t=true∧t<P.types.size)
  (hres:f.resultTypes=#[tb]) (htb:P.underlying tb=some .bool) (hv:s.vars = []) (hfn:s.fn H ds ={ results:=[.lit (.bool true)],args:=ds }) (hb:Below W.heap.size W W')
  (hW:DataW.Whole enc P f.params.toList s.vars false W args.toList ds gs before):s.post enc P f false true false false W args (.bool true) W':=by
 have hW2:=hW;obtain⟨p,q,h1,h2,rfl,_,_⟩:=hW;rw[hv]at h2;have hgs:gs = []∧q = []:=by
  cases gs with
  |nil=>exact⟨rfl,h2⟩
  |cons g gs=>exact h2.elim
 obtain⟨rfl,rfl⟩:=hgs;refine⟨ds,[],p ++ [],[],p,[],hW2,?_,?_,?_,hb.frame _,fun h=>by cases h⟩
 ·rw[List.append_nil,hfn,hres];exact⟨[],[],⟨1,by show DataW.trod enc P W' _ _ _ 1 tb [.bool true]=_;simp[DataW.trod,htb]⟩,rfl,rfl⟩
 ·rw[List.append_nil,hfn];exact Zio hl hb hr h1
 rw[List.append_nil,hfn,hv];exact rfl
end
open Go.Proofs
def glob0:List ByteArray:=[⟨#[111,110,111,102,102]⟩,⟨#[108,101,118,101,108]⟩,⟨#[108,111,99,107]⟩,⟨#[116,104,101,114,109,111,115,116,97,116]⟩,⟨#[115,109,111,107,101]⟩,⟨#[108,101,97,107]⟩,⟨#[118,97,108,118,101]⟩,⟨#[109,101,116,101,114]⟩]
instance:Globals:=⟨fun g=>match Nat.beq g 0 with|true=>some (glob0.map fun s=>.val (.string s))|false=>none⟩
theorem eqt55(e:Nat):EqAt Tryz.prog (e+2) 55 [.int .i64,.int .i64,.str]:=EqAt.struct Tryz.underlying55 (by kernel_rfl) (.one 0 _ _ (.int .i64) _ (by decide) rfl Tryz.underlying3 (.one 1 _ _ (.int .i64) _ (by decide) rfl Tryz.underlying3 (.one 2 _ _ (.str) _ (by decide) rfl Tryz.underlying9 (.nil _))))
theorem eqt56(e:Nat):EqAt Tryz.prog (e+2) 56 [.int .i64,.int .i64,.str]:=EqAt.struct Tryz.underlying56 (by kernel_rfl) (.one 0 _ _ (.int .i64) _ (by decide) rfl Tryz.underlying3 (.one 1 _ _ (.int .i64) _ (by decide) rfl Tryz.underlying3 (.one 2 _ _ (.str) _ (by decide) rfl Tryz.underlying9 (.nil _))))
theorem eqt57(e:Nat):EqAt Tryz.prog (e+2) 57 [.int .i64,.str,.str]:=EqAt.struct Tryz.underlying57 (by kernel_rfl) (.one 0 _ _ (.int .i64) _ (by decide) rfl Tryz.underlying3 (.one 1 _ _ (.str) _ (by decide) rfl Tryz.underlying9 (.one 2 _ _ (.str) _ (by decide) rfl Tryz.underlying9 (.nil _))))
theorem eqt58(e:Nat):EqAt Tryz.prog (e+2) 58 [.int .i64,.str,.str]:=EqAt.struct Tryz.underlying58 (by kernel_rfl) (.one 0 _ _ (.int .i64) _ (by decide) rfl Tryz.underlying3 (.one 1 _ _ (.str) _ (by decide) rfl Tryz.underlying9 (.one 2 _ _ (.str) _ (by decide) rfl Tryz.underlying9 (.nil _))))
theorem eqt65(e:Nat):EqAt Tryz.prog (e+2) 65 [.int .i64,.str,.int .i64]:=EqAt.struct Tryz.underlying65 (by kernel_rfl) (.one 0 _ _ (.int .i64) _ (by decide) rfl Tryz.underlying3 (.one 1 _ _ (.str) _ (by decide) rfl Tryz.underlying9 (.one 2 _ _ (.int .i64) _ (by decide) rfl Tryz.underlying3 (.nil _))))
theorem eqt66(e:Nat):EqAt Tryz.prog (e+2) 66 [.int .i64,.str,.int .i64]:=EqAt.struct Tryz.underlying66 (by kernel_rfl) (.one 0 _ _ (.int .i64) _ (by decide) rfl Tryz.underlying3 (.one 1 _ _ (.str) _ (by decide) rfl Tryz.underlying9 (.one 2 _ _ (.int .i64) _ (by decide) rfl Tryz.underlying3 (.nil _))))
theorem eqt67(e:Nat):EqAt Tryz.prog (e+3) 67 [.int .i64,.str,.str,.int .i64,.int .i64,.str,.int .i64,.str,.int .i64,.int .i64]:=EqAt.struct Tryz.underlying67 (by kernel_rfl) (.many 0 _ _ [.int .i64,.str,.str] _ (by decide) rfl Tryz.t58 _ Tryz.underlying58 (by kernel_rfl) rfl (eqt58 e) (.many 3 _ _ [.int .i64,.int .i64,.str] _ (by decide) rfl Tryz.t56 _ Tryz.underlying56 (by kernel_rfl) rfl (eqt56 e) (.many 6 _ _ [.int .i64,.str,.int .i64] _ (by decide) rfl Tryz.t66 _ Tryz.underlying66 (by kernel_rfl) rfl (eqt66 e) (.one 9 _ _ (.int .i64) _ (by decide) rfl Tryz.underlying3 (.nil _)))))
theorem eqt68(e:Nat):EqAt Tryz.prog (e+3) 68 [.int .i64,.str,.str,.int .i64,.int .i64,.str,.int .i64,.str,.int .i64,.int .i64]:=EqAt.struct Tryz.underlying68 (by kernel_rfl) (.many 0 _ _ [.int .i64,.str,.str] _ (by decide) rfl Tryz.t58 _ Tryz.underlying58 (by kernel_rfl) rfl (eqt58 e) (.many 3 _ _ [.int .i64,.int .i64,.str] _ (by decide) rfl Tryz.t56 _ Tryz.underlying56 (by kernel_rfl) rfl (eqt56 e) (.many 6 _ _ [.int .i64,.str,.int .i64] _ (by decide) rfl Tryz.t66 _ Tryz.underlying66 (by kernel_rfl) rfl (eqt66 e) (.one 9 _ _ (.int .i64) _ (by decide) rfl Tryz.underlying3 (.nil _)))))
theorem eqt94(e:Nat):EqAt Tryz.prog (e+3) 94 [.int .i64,.str,.int .i64,.int .i64]:=EqAt.struct Tryz.underlying94 (by kernel_rfl) (.many 0 _ _ [.int .i64,.str,.int .i64] _ (by decide) rfl Tryz.t66 _ Tryz.underlying66 (by kernel_rfl) rfl (eqt66 e) (.one 3 _ _ (.int .i64) _ (by decide) rfl Tryz.underlying3 (.nil _)))
theorem eqt95(e:Nat):EqAt Tryz.prog (e+3) 95 [.int .i64,.str,.int .i64,.int .i64]:=EqAt.struct Tryz.underlying95 (by kernel_rfl) (.many 0 _ _ [.int .i64,.str,.int .i64] _ (by decide) rfl Tryz.t66 _ Tryz.underlying66 (by kernel_rfl) rfl (eqt66 e) (.one 3 _ _ (.int .i64) _ (by decide) rfl Tryz.underlying3 (.nil _)))
theorem eqt106(e:Nat):EqAt Tryz.prog (e+3) 106 [.int .i64,.str,.str,.int .i64,.int .i64,.str,.int .i64]:=EqAt.struct Tryz.underlying106 (by kernel_rfl) (.many 0 _ _ [.int .i64,.str,.str] _ (by decide) rfl Tryz.t58 _ Tryz.underlying58 (by kernel_rfl) rfl (eqt58 e) (.many 3 _ _ [.int .i64,.int .i64,.str] _ (by decide) rfl Tryz.t56 _ Tryz.underlying56 (by kernel_rfl) rfl (eqt56 e) (.one 6 _ _ (.int .i64) _ (by decide) rfl Tryz.underlying3 (.nil _))))
theorem eqt107(e:Nat):EqAt Tryz.prog (e+3) 107 [.int .i64,.str,.str,.int .i64,.int .i64,.str,.int .i64]:=EqAt.struct Tryz.underlying107 (by kernel_rfl) (.many 0 _ _ [.int .i64,.str,.str] _ (by decide) rfl Tryz.t58 _ Tryz.underlying58 (by kernel_rfl) rfl (eqt58 e) (.many 3 _ _ [.int .i64,.int .i64,.str] _ (by decide) rfl Tryz.t56 _ Tryz.underlying56 (by kernel_rfl) rfl (eqt56 e) (.one 6 _ _ (.int .i64) _ (by decide) rfl Tryz.underlying3 (.nil _))))
theorem eqt108(e:Nat):EqAt Tryz.prog (e+2) 108 [.int .i64,.str,.str]:=EqAt.struct Tryz.underlying108 (by kernel_rfl) (.one 0 _ _ (.int .i64) _ (by decide) rfl Tryz.underlying3 (.one 1 _ _ (.str) _ (by decide) rfl Tryz.underlying9 (.one 2 _ _ (.str) _ (by decide) rfl Tryz.underlying9 (.nil _))))
theorem eqt109(e:Nat):EqAt Tryz.prog (e+2) 109 [.int .i64,.str,.str]:=EqAt.struct Tryz.underlying109 (by kernel_rfl) (.one 0 _ _ (.int .i64) _ (by decide) rfl Tryz.underlying3 (.one 1 _ _ (.str) _ (by decide) rfl Tryz.underlying9 (.one 2 _ _ (.str) _ (by decide) rfl Tryz.underlying9 (.nil _))))
theorem eqt119(e:Nat):EqAt Tryz.prog (e+3) 119 [.int .i64,.int .i64,.str,.str,.int .i64,.str,.str,.str,.int .i64,.int .i64]:=EqAt.struct Tryz.underlying119 (by kernel_rfl) (.one 0 _ _ (.int .i64) _ (by decide) rfl Tryz.underlying3 (.many 1 _ _ [.int .i64,.str,.str] _ (by decide) rfl Tryz.t58 _ Tryz.underlying58 (by kernel_rfl) rfl (eqt58 e) (.many 4 _ _ [.int .i64,.str,.str] _ (by decide) rfl Tryz.t109 _ Tryz.underlying109 (by kernel_rfl) rfl (eqt109 e) (.one 7 _ _ (.str) _ (by decide) rfl Tryz.underlying9 (.one 8 _ _ (.int .i64) _ (by decide) rfl Tryz.underlying3 (.one 9 _ _ (.int .i64) _ (by decide) rfl Tryz.underlying3 (.nil _)))))))
theorem eqt120(e:Nat):EqAt Tryz.prog (e+3) 120 [.int .i64,.int .i64,.str,.str,.int .i64,.str,.str,.str,.int .i64,.int .i64]:=EqAt.struct Tryz.underlying120 (by kernel_rfl) (.one 0 _ _ (.int .i64) _ (by decide) rfl Tryz.underlying3 (.many 1 _ _ [.int .i64,.str,.str] _ (by decide) rfl Tryz.t58 _ Tryz.underlying58 (by kernel_rfl) rfl (eqt58 e) (.many 4 _ _ [.int .i64,.str,.str] _ (by decide) rfl Tryz.t109 _ Tryz.underlying109 (by kernel_rfl) rfl (eqt109 e) (.one 7 _ _ (.str) _ (by decide) rfl Tryz.underlying9 (.one 8 _ _ (.int .i64) _ (by decide) rfl Tryz.underlying3 (.one 9 _ _ (.int .i64) _ (by decide) rfl Tryz.underlying3 (.nil _)))))))
theorem eqt159(e:Nat):EqAt Tryz.prog (e+2) 159 [.int .i64,.str,.int .i64]:=EqAt.struct Tryz.underlying159 (by kernel_rfl) (.one 0 _ _ (.int .i64) _ (by decide) rfl Tryz.underlying3 (.one 1 _ _ (.str) _ (by decide) rfl Tryz.underlying9 (.one 2 _ _ (.int .i64) _ (by decide) rfl Tryz.underlying3 (.nil _))))
theorem eqt160(e:Nat):EqAt Tryz.prog (e+2) 160 [.int .i64,.str,.int .i64]:=EqAt.struct Tryz.underlying160 (by kernel_rfl) (.one 0 _ _ (.int .i64) _ (by decide) rfl Tryz.underlying3 (.one 1 _ _ (.str) _ (by decide) rfl Tryz.underlying9 (.one 2 _ _ (.int .i64) _ (by decide) rfl Tryz.underlying3 (.nil _))))
theorem eqt309(e:Nat):EqAt Tryz.prog (e+2) 309 [.int .i64,.int .i64]:=EqAt.struct Tryz.underlying309 (by kernel_rfl) (.one 0 _ _ (.int .i64) _ (by decide) rfl Tryz.underlying3 (.one 1 _ _ (.int .i64) _ (by decide) rfl Tryz.underlying3 (.nil _)))
theorem eqt310(e:Nat):EqAt Tryz.prog (e+2) 310 [.int .i64,.int .i64]:=EqAt.struct Tryz.underlying310 (by kernel_rfl) (.one 0 _ _ (.int .i64) _ (by decide) rfl Tryz.underlying3 (.one 1 _ _ (.int .i64) _ (by decide) rfl Tryz.underlying3 (.nil _)))
def TYok(t:Nat)(ty:TY):Prop:=Tryz.prog.info? t=some ty.info∧Tryz.prog.underlying t=some ty.und∧(ty.leaves = []∨EqOK Tryz.prog t ty.leaves)
noncomputable abbrev tS(t:TypeInfo):Option TY:=some ⟨t,t.desc,[]⟩
noncomputable abbrev tU(t u:TypeInfo):Option TY:=some ⟨t,u.desc,[]⟩
noncomputable abbrev tN(l:TT)(v:Option TY)(r:TT):TT:=.node l v r
noncomputable abbrev tE(v:Option TY):TT:=.node .leaf v .leaf
noncomputable abbrev tL:TT:=.leaf
open Tryz in
noncomputable def tab:TT:=(tN (tN (tN (tN (tN (tN (tN (tN (tN tL none (tE (tS t256))) none (tE (tS t128))) none (tN tL (tU t64 t63) (tE (tS t192)))) none (tN (tN (tN tL none (tE (tS t288))) none (tE (some ⟨t160,t159.desc,[.int .i64,.str,.int .i64]⟩))) (tS t32) (tN tL (tS t96) (tE (tS t224))))) none (tN (tN (tN (tN tL none (tE (tS t272))) none (tE (tS t144))) none (tN tL (tS t80) (tE (tS t208)))) (tS t16) (tN (tN (tN tL none (tE (tU t304 t21))) none (tE (tS t176))) (tS t48) (tN tL (tS t112) (tE (tS t240)))))) none (tN (tN (tN (tN (tN tL none (tE (tS t264))) none (tE (tU t136 t134))) none (tN tL (tS t72) (tE (tS t200)))) none (tN (tN (tN tL none (tE (tS t296))) none (tE (tS t168))) (tU t40 t39) (tN tL (tS t104) (tE (tS t232))))) (tU t8 t7) (tN (tN (tN (tN tL none (tE (tS t280))) none (tE (tS t152))) none (tN tL (tS t88) (tE (tS t216)))) (tS t24) (tN (tN (tN tL none (tE (tS t312))) none (tE (tS t184))) (some ⟨t56,t55.desc,[.int .i64,.int .i64,.str]⟩) (tN tL (some ⟨t120,t119.desc,[.int .i64,.int .i64,.str,.str,.int .i64,.str,.str,.str,.int .i64,.int .i64]⟩) (tE (tS t248))))))) none (tN (tN (tN (tN (tN (tN tL none (tE (tS t260))) none (tE (tS t132))) none (tN tL (some ⟨t68,t67.desc,[.int .i64,.str,.str,.int .i64,.int .i64,.str,.int .i64,.str,.int .i64,.int .i64]⟩) (tE (tS t196)))) none (tN (tN (tN tL none (tE (tS t292))) none (tE (tS t164))) (tS t36) (tN tL (tS t100) (tE (tS t228))))) none (tN (tN (tN (tN tL none (tE (tS t276))) none (tE (tS t148))) none (tN tL (tS t84) (tE (tS t212)))) (tS t20) (tN (tN (tN tL none (tE (tS t308))) none (tE (tS t180))) (tS t52) (tN tL (tS t116) (tE (tS t244)))))) (tS t4) (tN (tN (tN (tN (tN tL none (tE (tS t268))) none (tE (tS t140))) none (tN tL (tU t76 t75) (tE (tS t204)))) none (tN (tN (tN tL none (tE (tU t300 t5))) none (tE (tS t172))) (tS t44) (tN tL (some ⟨t108,t108.desc,[.int .i64,.str,.str]⟩) (tE (tS t236))))) (tS t12) (tN (tN (tN (tN tL none (tE (tS t284))) none (tE (tS t156))) none (tN tL (tU t92 t91) (tE (tS t220)))) (tU t28 t27) (tN (tN (tN tL none (tE (tS t316))) none (tE (tS t188))) (tS t60) (tN tL (tS t124) (tE (tS t252)))))))) none (tN (tN (tN (tN (tN (tN (tN tL none (tE (tS t258))) none (tE (tS t130))) none (tN tL (some ⟨t66,t65.desc,[.int .i64,.str,.int .i64]⟩) (tE (tS t194)))) none (tN (tN (tN tL none (tE (tS t290))) none (tE (tS t162))) (tU t34 t33) (tN tL (tS t98) (tE (tS t226))))) none (tN (tN (tN (tN tL none (tE (tS t274))) none (tE (tS t146))) none (tN tL (tS t82) (tE (tS t210)))) (tS t18) (tN (tN (tN tL none (tE (tS t306))) none (tE (tS t178))) (tS t50) (tN tL (tS t114) (tE (tS t242)))))) none (tN (tN (tN (tN (tN tL none (tE (tS t266))) none (tE (tU t138 t134))) none (tN tL (tS t74) (tE (tS t202)))) none (tN (tN (tN tL none (tE (tU t298 t297))) none (tE (tS t170))) (tS t42) (tN tL (some ⟨t106,t106.desc,[.int .i64,.str,.str,.int .i64,.int .i64,.str,.int .i64]⟩) (tE (tS t234))))) (tU t10 t9) (tN (tN (tN (tN tL none (tE (tS t282))) none (tE (tS t154))) none (tN tL (tS t90) (tE (tS t218)))) (tS t26) (tN (tN (tN tL none (tE (tS t314))) none (tE (tS t186))) (some ⟨t58,t57.desc,[.int .i64,.str,.str]⟩) (tN tL (tS t122) (tE (tS t250))))))) (tS t2) (tN (tN (tN (tN (tN (tN tL none (tE (tS t262))) none (tE (tS t134))) none (tN tL (tU t70 t69) (tE (tS t198)))) none (tN (tN (tN tL none (tE (tS t294))) none (tE (tS t166))) (tU t38 t37) (tN tL (tS t102) (tE (tS t230))))) none (tN (tN (tN (tN tL none (tE (tS t278))) none (tE (tS t150))) none (tN tL (tU t86 t85) (tE (tS t214)))) (tS t22) (tN (tN (tN tL none (tE (some ⟨t310,t309.desc,[.int .i64,.int .i64]⟩))) none (tE (tS t182))) (tS t54) (tN tL (tS t118) (tE (tS t246)))))) (tU t6 t5) (tN (tN (tN (tN (tN tL none (tE (tS t270))) none (tE (tS t142))) none (tN tL (tS t78) (tE (tS t206)))) none (tN (tN (tN tL none (tE (tS t302))) none (tE (tS t174))) (tU t46 t3) (tN tL (tS t110) (tE (tS t238))))) (tU t14 t13) (tN (tN (tN (tN tL none (tE (tS t286))) none (tE (tS t158))) none (tN tL (some ⟨t94,t94.desc,[.int .i64,.str,.int .i64,.int .i64]⟩) (tE (tS t222)))) (tS t30) (tN (tN (tN tL none (tE (tS t318))) none (tE (tS t190))) (tS t62) (tN tL (tU t126 t125) (tE (tS t254))))))))) (tS t0) (tN (tN (tN (tN (tN (tN (tN (tN tL none (tE (tS t257))) none (tE (tS t129))) none (tN tL (some ⟨t65,t65.desc,[.int .i64,.str,.int .i64]⟩) (tE (tS t193)))) none (tN (tN (tN tL none (tE (tS t289))) none (tE (tS t161))) (tS t33) (tN tL (tS t97) (tE (tS t225))))) none (tN (tN (tN (tN tL none (tE (tS t273))) none (tE (tS t145))) none (tN tL (tS t81) (tE (tS t209)))) (tS t17) (tN (tN (tN tL none (tE (tU t305 t21))) none (tE (tS t177))) (tS t49) (tN tL (tU t113 t112) (tE (tS t241)))))) none (tN (tN (tN (tN (tN tL none (tE (tS t265))) none (tE (tU t137 t134))) none (tN tL (tS t73) (tE (tS t201)))) none (tN (tN (tN tL none (tE (tS t297))) none (tE (tS t169))) (tS t41) (tN tL (tU t105 t104) (tE (tS t233))))) (tS t9) (tN (tN (tN (tN tL none (tE (tS t281))) none (tE (tS t153))) none (tN tL (tS t89) (tE (tS t217)))) (tU t25 t24) (tN (tN (tN tL none (tE (tS t313))) none (tE (tS t185))) (some ⟨t57,t57.desc,[.int .i64,.str,.str]⟩) (tN tL (tS t121) (tE (tS t249))))))) none (tN (tN (tN (tN (tN (tN tL none (tE (tS t261))) none (tE (tS t133))) none (tN tL (tS t69) (tE (tS t197)))) none (tN (tN (tN tL none (tE (tS t293))) none (tE (tS t165))) (tS t37) (tN tL (tS t101) (tE (tS t229))))) none (tN (tN (tN (tN tL none (tE (tS t277))) none (tE (tS t149))) none (tN tL (tS t85) (tE (tS t213)))) (tS t21) (tN (tN (tN tL none (tE (some ⟨t309,t309.desc,[.int .i64,.int .i64]⟩))) none (tE (tS t181))) (tS t53) (tN tL (tS t117) (tE (tS t245)))))) (tS t5) (tN (tN (tN (tN (tN tL none (tE (tS t269))) none (tE (tS t141))) none (tN tL (tS t77) (tE (tS t205)))) none (tN (tN (tN tL none (tE (tU t301 t5))) none (tE (tS t173))) (tU t45 t44) (tN tL (some ⟨t109,t108.desc,[.int .i64,.str,.str]⟩) (tE (tS t237))))) (tS t13) (tN (tN (tN (tN tL none (tE (tS t285))) none (tE (tU t157 t156))) none (tN tL (tS t93) (tE (tS t221)))) (tS t29) (tN (tN (tN tL none (tE (tS t317))) none (tE (tS t189))) (tU t61 t60) (tN tL (tS t125) (tE (tS t253)))))))) (tS t1) (tN (tN (tN (tN (tN (tN (tN tL none (tE (tS t259))) none (tE (tS t131))) none (tN tL (some ⟨t67,t67.desc,[.int .i64,.str,.str,.int .i64,.int .i64,.str,.int .i64,.str,.int .i64,.int .i64]⟩) (tE (tS t195)))) none (tN (tN (tN tL none (tE (tS t291))) none (tE (tS t163))) (tS t35) (tN tL (tS t99) (tE (tU t227 t3))))) none (tN (tN (tN (tN tL none (tE (tS t275))) none (tE (tS t147))) none (tN tL (tS t83) (tE (tS t211)))) (tU t19 t18) (tN (tN (tN tL none (tE (tU t307 t306))) none (tE (tS t179))) (tS t51) (tN tL (tS t115) (tE (tS t243)))))) none (tN (tN (tN (tN (tN tL none (tE (tU t267 t124))) none (tE (tU t139 t134))) none (tN tL (tS t75) (tE (tS t203)))) none (tN (tN (tN tL none (tE (tS t299))) none (tE (tS t171))) (tS t43) (tN tL (some ⟨t107,t106.desc,[.int .i64,.str,.str,.int .i64,.int .i64,.str,.int .i64]⟩) (tE (tS t235))))) (tU t11 t9) (tN (tN (tN (tN tL none (tE (tS t283))) none (tE (tS t155))) none (tN tL (tS t91) (tE (tS t219)))) (tS t27) (tN (tN (tN tL none (tE (tS t315))) none (tE (tS t187))) (tS t59) (tN tL (tS t123) (tE (tS t251))))))) (tS t3) (tN (tN (tN (tN (tN (tN tL none (tE (tS t263))) none (tE (tU t135 t134))) none (tN tL (tS t71) (tE (tS t199)))) none (tN (tN (tN tL none (tE (tU t295 t294))) none (tE (tS t167))) (tS t39) (tN tL (tS t103) (tE (tS t231))))) none (tN (tN (tN (tN tL none (tE (tS t279))) none (tE (tS t151))) none (tN tL (tS t87) (tE (tS t215)))) (tS t23) (tN (tN (tN tL none (tE (tS t311))) none (tE (tS t183))) (some ⟨t55,t55.desc,[.int .i64,.int .i64,.str]⟩) (tN tL (some ⟨t119,t119.desc,[.int .i64,.int .i64,.str,.str,.int .i64,.str,.str,.str,.int .i64,.int .i64]⟩) (tE (tS t247)))))) (tS t7) (tN (tN (tN (tN (tN tL none (tE (tS t271))) none (tE (tS t143))) none (tN tL (tU t79 t78) (tE (tS t207)))) none (tN (tN (tN tL none (tE (tS t303))) none (tE (tS t175))) (tS t47) (tN tL (tS t111) (tE (tS t239))))) (tS t15) (tN (tN (tN (tN tL none (tE (tS t287))) none (tE (some ⟨t159,t159.desc,[.int .i64,.str,.int .i64]⟩))) none (tN tL (some ⟨t95,t94.desc,[.int .i64,.str,.int .i64,.int .i64]⟩) (tE (tS t223)))) (tS t31) (tN (tN (tN tL none (tE (tS t319))) none (tE (tS t191))) (tS t63) (tN tL (tS t127) (tE (tS t255))))))))))
noncomputable def T:Tab:=fun t=>TT.get 20 tab t
set_option maxRecDepth 100000 in
set_option maxHeartbeats 4000000 in
theorem Zwu:TT.all TYok tab 1 0:=by
 repeat'(first|exact trivial|refine qa ?_ ?_|kernel_rfl|exact Or.inl rfl|exact Or.inr ⟨by kernel_rfl,eqt160 9998⟩|exact Or.inr ⟨by kernel_rfl,eqt56 9998⟩|exact Or.inr ⟨by kernel_rfl,eqt120 9997⟩|exact Or.inr ⟨by kernel_rfl,eqt68 9997⟩|exact Or.inr ⟨by kernel_rfl,eqt108 9998⟩|exact Or.inr ⟨by kernel_rfl,eqt66 9998⟩|exact Or.inr ⟨by kernel_rfl,eqt106 9997⟩|exact Or.inr ⟨by kernel_rfl,eqt58 9998⟩|exact Or.inr ⟨by kernel_rfl,eqt310 9998⟩|exact Or.inr ⟨by kernel_rfl,eqt94 9997⟩|exact Or.inr ⟨by kernel_rfl,eqt65 9998⟩|exact Or.inr ⟨by kernel_rfl,eqt57 9998⟩|exact Or.inr ⟨by kernel_rfl,eqt309 9998⟩|exact Or.inr ⟨by kernel_rfl,eqt109 9998⟩|exact Or.inr ⟨by kernel_rfl,eqt67 9997⟩|exact Or.inr ⟨by kernel_rfl,eqt107 9997⟩|exact Or.inr ⟨by kernel_rfl,eqt55 9998⟩|exact Or.inr ⟨by kernel_rfl,eqt119 9997⟩|exact Or.inr ⟨by kernel_rfl,eqt159 9998⟩|exact Or.inr ⟨by kernel_rfl,eqt95 9997⟩)
theorem T_ok:T.ok Tryz.prog:=fun _ _ h=>by
 have:=TT.all_get (p:=TYok) (m:=1) (b:=0) (t:=tab) Zwu h;have h2:=this;simp at h2;exact h2
variable [Globals]
structure Val where
 kind:Int
 n:Int
 s:ByteArray
 deriving Inhabited,DecidableEq
structure Attr where
 name:ByteArray
 kind:Int
 min:Int
 max:Int
 enum:List ByteArray
 writable:Bool
 safety:Bool
 deriving Inhabited,DecidableEq
structure Eff where
 kind:Int
 attr:ByteArray
 n:Int
 deriving Inhabited,DecidableEq
structure Cmd where
 name:ByteArray
 param:Attr
 effects:List Eff
 deriving Inhabited,DecidableEq
structure Clu where
 name:ByteArray
 attrs:List Attr
 commands:List Cmd
 events:List ByteArray
 deriving Inhabited,DecidableEq
structure Dev where
 id:Int
 eui:Int
 vendor:Int
 sleepy:Bool
 poll:Int
 room:ByteArray
 clusters:List ByteArray
 deriving Inhabited,DecidableEq
structure Hom where
 clusters:List Clu
 devices:List Dev
 deriving Inhabited,DecidableEq
structure Key where
 dev:Int
 cluster:ByteArray
 attr:ByteArray
 deriving Inhabited,DecidableEq
structure Item where
 key:Key
 value:Val
 version:Int
 deriving Inhabited,DecidableEq
def cVal(v:Val):List PV:=[vint v.kind,vint v.n,vstr v.s]
def cAttr(a:Attr):List PV:=[vstr a.name,vint a.kind,vint a.min,vint a.max,roL 1 cstr a.enum,vbool a.writable,vbool a.safety]
def cEff(e:Eff):List PV:=[vint e.kind,vstr e.attr,vint e.n]
def cCmd(c:Cmd):List PV:=vstr c.name ::(cAttr c.param ++ [roL 3 cEff c.effects])
def cClu(c:Clu):List PV:=[vstr c.name,roL 7 cAttr c.attrs,roL 9 cCmd c.commands,roL 1 cstr c.events]
def cDev(d:Dev):List PV:=[vint d.id,.val (.int .u64 d.eui),vint d.vendor,vbool d.sleepy,vint d.poll,vstr d.room,roL 1 cstr d.clusters]
def cHom(h:Hom):List PV:=[roL 4 cClu h.clusters,roL 7 cDev h.devices]
def cKey(k:Key):List PV:=[vint k.dev,vstr k.cluster,vstr k.attr]
def cItem(x:Item):List PV:=cKey x.key++(cVal x.value ++ [vint x.version])
def idxOf(l:List ByteArray)(s:ByteArray):Int:=match l.findIdx? (· = s)with|some i=>i|none=>-1
theorem Z4i{l:List ByteArray}{x:ByteArray}{k:Nat}(hk:k<l.length)(h:l.getD k default=x)(hf:∀j,j<k→l.getD j default≠x):idxOf l x=k:=by
 have:l.findIdx? (· = x)=some k:=by
  rw[List.findIdx?_eq_some_iff_getElem]
  refine⟨hk,by simpa[List.getD,hk]using h,fun j hj=>?_⟩
  have:=hf j hj
  simpa[List.getD,show j<l.length from by omega]using this
 simp[idxOf,this]
theorem Zew{l:List ByteArray}{x:ByteArray}(hf:∀j,j<l.length→l.getD j default≠x):idxOf l x = -1:=by
 have:l.findIdx? (· = x)=none:=by
  rw[List.findIdx?_eq_none_iff]
  intro y hy
  obtain⟨j,hj,rfl⟩:=List.getElem_of_mem hy
  simpa[List.getD,hj]using hf j hj
 simp[idxOf,this]
def letterOk(i:Nat)(c:Int):Bool:=(decide (97<=c)&&decide (c<=122)) ||(decide (i≠0)&&(decide (c=95)||decide (c=45) ||(decide (48<=c)&&decide (c<=57))))
def validName(s:ByteArray):Bool:=decide (1<=s.size)&&decide (s.size<=24)&&(List.range s.size).all fun i=>letterOk i (byteAt s i)
theorem validName_iff{s:ByteArray}:validName s=true↔(1<=s.size∧s.size<=24∧∀i,i<s.size->letterOk i (byteAt s i)=true):=by
 simp[validName,and_assoc]
def firstE(n:Nat)(f:Nat->Int):Int:=match(List.range n).find? (fun i=>decide (f i≠0))with|some i=>f i|none=>0
theorem Z06{n k:Nat}{f:Nat->Int}(hk:k<n)(h:f k≠0)(hf:∀j,j<k->f j=0):firstE n f=f k:=by
 have:(List.range n).find? (fun i=>decide (f i≠0))=some k:=by
  rw[List.find?_range_eq_some];exact⟨by simpa using h,by simpa using hk,fun j hj=>by simpa using hf j hj⟩
 simp only[firstE,this]
theorem Z0c{n:Nat}{f:Nat->Int}(hf:∀j,j<n->f j=0):firstE n f=0:=by
 have:(List.range n).find? (fun i=>decide (f i≠0))=none:=by
  rw[List.find?_eq_none];intro x hx;simpa using hf x (by simpa using hx)
 simp only[firstE,this]
def inRange(n:Int):Bool:=decide (-1099511627776<=n)&&decide (n<=1099511627776)
def membersE(l:List ByteArray):Int:=if l.length<1∨64<l.length then 3 else firstE l.length fun i=>if validName (l.getD i default)=false then 10 else if idxOf l (l.getD i default)<i then 9 else 0
def defE(a:Attr):Int:=
 if validName a.name=false then 10 else if a.kind<1∨4<a.kind then 7
 else if a.kind=2∧(inRange a.min=false∨inRange a.max=false∨a.max<a.min)then 2
 else if a.kind≠2∧(a.min≠0∨a.max≠0)then 2
 else if a.kind=3 then membersE a.enum else if 0<a.enum.length then 4 else 0
def valE(v:Val):Int:=
 if v.kind<0∨4<v.kind then 7
 else if((v.kind=0∨v.kind=4)∧v.n≠0)∨(v.kind=1∧v.n≠0∧v.n≠1)∨(v.kind=2∧inRange v.n=false)∨(v.kind=3∧(v.n<0∨63<v.n))then 2
 else if 60<v.s.size then 3 else if v.s≠⟨#[]⟩∧v.kind≠4 then 4 else 0
def fitsE(a:Attr)(v:Val):Int:=
 if defE a≠0 then defE a else if valE v≠0 then valE v else if v.kind≠a.kind then 11
 else if(v.kind=2∧(v.n<a.min∨a.max<v.n))∨(v.kind=3∧(a.enum.length:Int)<=v.n)then 2 else 0
def clampI(n lo hi:Int):Int:=if hi<lo∨hi<n then hi else if n<lo then lo else n
def noVal:Val:=⟨0,0,⟨#[]⟩⟩
def zeroV(a:Attr):Val:=if defE a≠0 then noVal else if a.kind=2 then⟨a.kind,clampI 0 a.min a.max,⟨#[]⟩⟩else⟨a.kind,0,⟨#[]⟩⟩
def limitV(a:Attr)(v:Val):Val:=if defE a=0∧a.kind=2∧v.kind=2 then⟨v.kind,clampI v.n a.min a.max,v.s⟩else v
end Go.Abs
namespace Go.Abs
open Go.Proofs
theorem hm:Tryz.prog.follows .mixedOrders=true:=by kernel_rfl
theorem Zcl(l:List ByteArray)(x:ByteArray)(hl:l.length<=1048576):AC Tryz.prog 189 [.pv (roL 1 cstr l),.pv (vstr x)] [] (.pv (vint (idxOf l x))) []:=by
 refine AC.of_awp (T:=T) T_ok hm Tryz.call189 Tryz.func189 rfl rfl rfl ?_
 conv=>whnf
 refine⟨Nat,fun k=>k<=l.length∧∀j,j<k->l.getD j default≠x,fun k=>⟨[(0,.pv (roL 1 cstr l)),(1,.pv (vstr x)),(7,.pv (vint l.length)),(8,.pv (vint k))],[]⟩,fun k=>l.length-k,0,[],⟨qe _,fun j h=>absurd h (by omega)⟩,⟨.rfl,.rfl,.rfl,.rfl⟩,fun k hk=>?_⟩
 conv=>whnf
 refine⟨fun h=>?_,fun h=>?_⟩
 ·simp only[Q0]at h;refine⟨by omega,?_⟩
  conv=>whnf
  refine⟨fun h2=>?_,fun h2=>?_⟩
  ·conv=>whnf
   simp only[Q0]at h2;exact PSub.int (by rw[Z4i (k:=k) (by omega) (by simpa[eq_comm]using h2) hk.2])
  conv=>whnf
  refine .inl ⟨wrap64 (by omega),?_⟩
  conv=>whnf
  simp only[decide_eq_false_iff_not]at h2;refine⟨k+1,[],⟨by omega,fun j hj=>?_⟩,by dsimp only;omega,.rfl,.rfl,.rfl,.rfl⟩
  by_cases e:j=k
  ·subst e;simpa[eq_comm]using h2
  exact hk.2 j (by omega)
 conv=>whnf
 simp only[Q1]at h;exact PSub.int (by rw[Zew fun j hj=>hk.2 j (by omega)])
theorem Z86(l:List ByteArray)(x:ByteArray)(hl:l.length<=1048576):AC Tryz.prog 130 [.pv (roL 1 cstr l),.pv (vstr x)] [] (.pv (vint (idxOf l x))) []:=by
 refine AC.of_awp (T:=T) T_ok hm Tryz.call130 Tryz.func130 rfl rfl rfl ?_
 conv=>whnf
 refine .inl ⟨_,Zcl l x hl,?_⟩
 conv=>whnf
 exact PSub.rfl
theorem Zk3(c:Int):AC Tryz.prog 129 [.pv (.val (.int .i32 c))] [] (.pv (vbool (decide (97<=c)&&decide (c<=122)))) []:=by
 refine AC.of_awp (T:=T) T_ok hm Tryz.call129 Tryz.func129 rfl rfl rfl ?_
 conv=>whnf
 refine⟨fun h=>?_,fun h=>?_⟩
 ·conv=>whnf
  simp only[Q0]at h;exact PSub.sb (by simp[h])
 conv=>whnf
 simp only[Q1]at h;exact PSub.lit_sb (by simp[h])
theorem letterOk_iff{i:Nat}{c:Int}:letterOk i c=true↔((97<=c∧c<=122)∨(i≠0∧(c=95∨c=45∨(48<=c∧c<=57)))):=by
 simp[letterOk,or_assoc]
theorem Zir{s:ByteArray}{k:Nat}(hk:k<s.size)(h:¬((97<=byteAt s k∧byteAt s k<=122)∨(k≠0∧(byteAt s k=95∨byteAt s k=45∨(48<=byteAt s k∧byteAt s k<=57))))):false=validName s:=by
 symm;rw[<-Bool.not_eq_true,validName_iff];intro ⟨_,_,h2⟩;exact h (letterOk_iff.1 (h2 k hk))
theorem Zp6{s:ByteArray}{k:Nat}(hk:k<s.size):(byteAt s k<128∧((Utf8.decode s k).1:Int)=byteAt s k∧(Utf8.decode s k).2=1)∨(128<=byteAt s k∧128<=(Utf8.decode s k).1):=by
 have hlt:k<s.data.size:=hk;have hb:byteAt s k=((s[k]'hk).toNat:Int):=by simp only[byteAt,Array.getD,dif_pos hlt];rfl
 rw[hb]
 by_cases h:(s[k]'hk).toNat<128
 ·left;rw[decode_ascii s k hk h];exact⟨by omega,rfl,rfl⟩
 right;exact⟨by omega,(decode_high s k hk (by omega)).1⟩
theorem Z0t(s:ByteArray):AC Tryz.prog 83 [.pv (vstr s)] [] (.pv (vbool (validName s))) []:=by
 refine AC.of_awp (T:=T) T_ok hm Tryz.call83 Tryz.func83 rfl rfl rfl ?_
 conv=>whnf
 refine⟨fun h=>?_,fun h=>?_⟩
 ·conv=>whnf
  simp only[Q0]at h;exact PSub.lit_sb (by symm;simp[validName];omega)
 conv=>whnf
 refine⟨fun h2=>?_,fun h2=>?_⟩
 ·conv=>whnf
  simp only[Q0]at h2;exact PSub.lit_sb (by symm;simp[validName];omega)
 conv=>whnf
 simp only[Q1]at h h2;refine⟨Nat,fun k=>k<=s.size∧∀j,j<k->letterOk j (byteAt s j)=true,fun k=>⟨[(0,.pv (vstr s)),(14,.ref 500)],[(500,.siter s k)]⟩,fun k=>s.size-k,0,[(500,14)],⟨qe _,fun j h=>absurd h (by omega)⟩,⟨⟨⟨rfl,rfl⟩,trivial⟩,.rfl,trivial⟩,fun k hk=>?_⟩
 conv=>whnf
 refine⟨fun h3=>?_,fun h3=>?_⟩
 ·conv=>whnf
  refine .inl ⟨_,Zk3 _,?_⟩
  conv=>whnf
  have hb:∀j,j<k->letterOk j (byteAt s j)=true:=hk.2;have hkl:=hk.1;clear hk;have hd:=Zp6 h3
  iterate 9 (all_goals first|(refine⟨fun h=>?_,fun h=>?_⟩<;>(conv=>whnf))|skip)
  all_goals simp only[Q0,Q1,Q2,Q3,qc,qd]at *
  all_goals first
   |contradiction
   |exact PSub.lit_sb (Zir (k:=k) h3 (by omega))
   |(refine⟨k+1,[],⟨by omega,fun j hj=>?_⟩,by omega,⟨⟨rfl,by omega⟩,trivial⟩,.rfl,trivial⟩
     by_cases e:j=k
     ·subst e;exact letterOk_iff.2 (by omega)
     ·exact hb j (by omega))
 ·conv=>whnf
  exact PSub.lit_sb (by symm;rw[validName_iff];exact⟨by omega,by omega,fun i hi=>hk.2 i (by have:=hk.1;omega)⟩)
set_option maxRecDepth 10000
theorem Z8p(n:Int):AC Tryz.prog 236 [.pv (vint n)] [] (.pv (vbool (inRange n))) []:=by
 refine AC.of_awp (T:=T) T_ok hm Tryz.call236 Tryz.func236 rfl rfl rfl ?_
 conv=>whnf
 refine⟨fun h=>?_,fun h=>?_⟩
 ·conv=>whnf
  simp only[Q0]at h;exact PSub.sb (by simp[inRange,h])
 conv=>whnf
 simp only[Q1]at h;exact PSub.lit_sb (by simp[inRange,h])
theorem Znm(l:List ByteArray)(hl:l.length<=1048576):AC Tryz.prog 237 [.pv (roL 1 cstr l)] [] (.pv (vint (membersE l))) []:=by
 refine AC.of_awp (T:=T) T_ok hm Tryz.call237 Tryz.func237 rfl rfl rfl ?_
 conv=>whnf
 refine⟨fun h=>?_,fun h=>?_⟩
 ·conv=>whnf
  simp only[Q0]at h;exact PSub.int (by rw[membersE,qK (by omega)])
 conv=>whnf
 refine⟨fun h2=>?_,fun h2=>?_⟩
 ·conv=>whnf
  simp only[Q0]at h2;exact PSub.int (by rw[membersE,qK (by omega)])
 conv=>whnf
 simp only[Q1]at h h2;have e0:membersE l=firstE l.length fun i=>if validName (l.getD i default)=false then 10 else if idxOf l (l.getD i default)<i then 9 else 0:=by rw[membersE,qJ (by omega)]
 rw[e0];generalize hf:(fun i=>if validName (l.getD i default)=false then(10:Int)else if idxOf l (l.getD i default)<(i:Int)then 9 else 0)=f;have hfi:∀i,f i=if validName (l.getD i default)=false then(10:Int)else if idxOf l (l.getD i default)<(i:Int)then 9 else 0:=fun i=>by rw[<-hf]
 refine⟨Nat,fun k=>k<=l.length∧∀j,j<k->f j=0,fun k=>⟨[(0,.pv (roL 1 cstr l)),(13,.pv (roL 1 cstr l)),(14,.pv (vint l.length)),(15,.pv (vint k))],[]⟩,fun k=>l.length-k,0,[],⟨qe _,fun j h=>absurd h (by omega)⟩,⟨.rfl,.rfl,.rfl,.rfl⟩,fun k hk=>?_⟩
 conv=>whnf
 refine⟨fun h3=>?_,fun h3=>?_⟩
 ·conv=>whnf
  simp only[Q0]at h3;refine⟨by omega,?_⟩
  conv=>whnf
  refine .inl ⟨_,Z0t _,?_⟩
  conv=>whnf
  have hfk:=hfi k;refine⟨fun h4=>?_,fun h4=>?_⟩
  ·conv=>whnf
   simp only[Q2,Q4]at h4;rw[qK h4]at hfk;exact PSub.int (by rw[Z06 (k:=k) (by omega) (by rw[hfk];decide) hk.2,hfk])
  conv=>whnf
  refine .inl ⟨_,Z86 l _ hl,?_⟩
  conv=>whnf
  simp only[Q3,Q4]at h4;rw[qJ (by rw[h4];decide)]at hfk;refine⟨fun h5=>?_,fun h5=>?_⟩
  ·conv=>whnf
   simp only[Q0,Q4]at h5;rw[qK h5]at hfk;exact PSub.int (by rw[Z06 (k:=k) (by omega) (by rw[hfk];decide) hk.2,hfk])
  conv=>whnf
  simp only[Q1,Q4]at h5;rw[qJ h5]at hfk;refine .inl ⟨wrap64 (by omega),?_⟩
  conv=>whnf
  refine⟨k+1,[],⟨by omega,fun j hj=>?_⟩,by dsimp only;omega,.rfl,.rfl,.rfl,.rfl⟩
  by_cases e:j=k
  ·subst e;exact hfk
  exact hk.2 j (by omega)
 conv=>whnf
 simp only[Q1]at h3;exact PSub.int (by rw[Z0c fun j hj=>hk.2 j (by omega)])
theorem Z55(a:Attr)(hl:a.enum.length<=1048576):AC Tryz.prog 187 [.pv (.agg (cAttr a))] [] (.pv (vint (defE a))) []:=by
 refine AC.of_awp (T:=T) T_ok hm Tryz.call187 Tryz.func187 rfl rfl rfl ?_
 conv=>whnf
 refine .inl ⟨_,Z0t _,?_⟩
 conv=>whnf
 refine⟨fun h=>?_,fun h=>?_⟩
 ·conv=>whnf
  simp only[Q2]at h;exact PSub.int (by rw[defE,qK h])
 conv=>whnf
 simp only[Q3]at h;have h:¬validName a.name=false:=by rw[h];decide
 have hk:a.kind<1∨4<a.kind->PSub (ofConst (.int .i64 7)) (vint (defE a)):=fun hh=>PSub.int (by rw[defE,qJ h,qK hh])
 refine⟨fun h2=>?_,fun h2=>?_⟩
 ·conv=>whnf
  simp only[Q0]at h2;exact hk (.inl h2)
 conv=>whnf
 refine⟨fun h3=>?_,fun h3=>?_⟩
 ·conv=>whnf
  simp only[Q0]at h3;exact hk (.inr h3)
 conv=>whnf
 simp only[Q1]at h2 h3;have hk2:¬(a.kind<1∨4<a.kind):=by omega
 have tail:∀(hq:¬(a.kind=2∧(inRange a.min=false∨inRange a.max=false∨a.max<a.min))) (hq2:¬(a.kind≠2∧(a.min≠0∨a.max≠0))),defE a=if a.kind=3 then membersE a.enum else if 0<a.enum.length then 4 else 0:=fun hq hq2=>by
  rw[defE,qJ h,qJ hk2,qJ hq,qJ hq2]
 refine⟨fun h4=>?_,fun h4=>?_⟩
 ·conv=>whnf
  simp only[Q0]at h4;have bad:(inRange a.min=false∨inRange a.max=false∨a.max<a.min)->PSub (ofConst (.int .i64 2)) (vint (defE a)):=fun hh=>PSub.int (by rw[defE,qJ h,qJ hk2,qK ⟨h4,hh⟩])
  refine .inl ⟨_,Z8p _,?_⟩
  conv=>whnf
  refine⟨fun h5=>?_,fun h5=>?_⟩
  ·conv=>whnf
   simp only[Q2]at h5;exact bad (.inl h5)
  conv=>whnf
  refine .inl ⟨_,Z8p _,?_⟩
  conv=>whnf
  refine⟨fun h6=>?_,fun h6=>?_⟩
  ·conv=>whnf
   simp only[Q2]at h6;exact bad (.inr (.inl h6))
  conv=>whnf
  refine⟨fun h7=>?_,fun h7=>?_⟩
  ·conv=>whnf
   simp only[Q0]at h7;exact bad (.inr (.inr h7))
  conv=>whnf
  simp only[Q1,Q3]at h5 h6 h7;have hd:=tail (by rw[h5,h6];simp;omega) (by omega);rw[qJ (by omega)]at hd;rw[hd];refine⟨fun h8=>?_,fun h8=>?_⟩
  ·simp only[Q0]at h8;omega
  conv=>whnf
  refine⟨fun h9=>?_,fun h9=>?_⟩
  ·conv=>whnf
   simp only[Q0]at h9;exact PSub.int (by rw[qK (by omega)])
  conv=>whnf
  simp only[Q1]at h9;exact PSub.int (by rw[qJ (by omega)])
 conv=>whnf
 simp only[Q1]at h4;have bad:(a.min≠0∨a.max≠0)->PSub (ofConst (.int .i64 2)) (vint (defE a)):=fun hh=>PSub.int (by rw[defE,qJ h,qJ hk2,qJ (fun x=>h4 x.1),qK ⟨h4,hh⟩])
 refine⟨fun h5=>?_,fun h5=>?_⟩
 ·conv=>whnf
  simp only[Q2,Q1]at h5;exact bad (.inl h5)
 conv=>whnf
 refine⟨fun h6=>?_,fun h6=>?_⟩
 ·conv=>whnf
  simp only[Q2,Q1]at h6;exact bad (.inr h6)
 conv=>whnf
 simp only[Q3,Q0]at h5 h6;have hd:=tail (fun x=>h4 x.1) (by omega);rw[hd];refine⟨fun h8=>?_,fun h8=>?_⟩
 ·conv=>whnf
  simp only[Q0]at h8;rw[qK h8];refine .inl ⟨_,Znm _ hl,?_⟩
  conv=>whnf
  exact PSub.rfl
 conv=>whnf
 simp only[Q1]at h8;rw[qJ h8];refine⟨fun h9=>?_,fun h9=>?_⟩
 ·conv=>whnf
  simp only[Q0]at h9;exact PSub.int (by rw[qK (by omega)])
 conv=>whnf
 simp only[Q1]at h9;exact PSub.int (by rw[qJ (by omega)])
theorem Z8o(v:Val):AC Tryz.prog 210 [.pv (.agg (cVal v))] [] (.pv (vint (valE v))) []:=by
 refine AC.of_awp (T:=T) T_ok hm Tryz.call210 Tryz.func210 rfl rfl rfl ?_
 conv=>whnf
 iterate 14 (all_goals first|(refine⟨fun h=>?_,fun h=>?_⟩<;>(conv=>whnf))|(refine .inl ⟨_,Z8p _,?_⟩;conv=>whnf)|skip)
 all_goals simp only[Q0,Q1,Q2,Q3]at *
 all_goals first
  |contradiction
  |exact PSub.int (by simp only[valE];(repeat' split)<;>first|rfl|omega|(simp_all;done)|(simp_all;omega))
  |trace_state
theorem Z56(a:Attr)(v:Val)(hl:a.enum.length<=1048576):AC Tryz.prog 268 [.pv (.agg (cAttr a)),.pv (.agg (cVal v))] [] (.pv (vint (fitsE a v))) []:=by
 refine AC.of_awp (T:=T) T_ok hm Tryz.call268 Tryz.func268 rfl rfl rfl ?_
 conv=>whnf
 iterate 14 (all_goals first|(refine⟨fun h=>?_,fun h=>?_⟩<;>(conv=>whnf))|(refine .inl ⟨_,Z55 a hl,?_⟩;conv=>whnf)|(refine .inl ⟨_,Z8o v,?_⟩;conv=>whnf)|skip)
 all_goals simp only[Q0,Q1,Q2,Q3]at *
 all_goals first
  |contradiction
  |exact PSub.int (by simp only[fitsE];(repeat' split)<;>first|rfl|omega|(simp_all;done)|(simp_all;omega))
  |trace_state
theorem Z87(n lo hi:Int):AC Tryz.prog 247 [.pv (vint n),.pv (vint lo),.pv (vint hi)] [] (.pv (vint (clampI n lo hi))) []:=by
 refine AC.of_awp (T:=T) T_ok hm Tryz.call247 Tryz.func247 rfl rfl rfl ?_
 conv=>whnf
 iterate 5 (all_goals first|(refine⟨fun h=>?_,fun h=>?_⟩<;>(conv=>whnf))|skip)
 all_goals simp only[Q0,Q1,Q2,Q3]at *
 all_goals first
  |contradiction
  |exact PSub.int (by simp only[clampI];(repeat' split)<;>first|rfl|omega)
  |trace_state
theorem Znl(a:Attr)(hl:a.enum.length<=1048576):AC Tryz.prog 291 [.pv (.agg (cAttr a))] [] (.pv (.agg (cVal (zeroV a)))) []:=by
 refine AC.of_awp (T:=T) T_ok hm Tryz.call291 Tryz.func291 rfl rfl rfl ?_
 conv=>whnf
 iterate 6 (all_goals first|(refine⟨fun h=>?_,fun h=>?_⟩<;>(conv=>whnf))|(refine .inl ⟨_,Z55 a hl,?_⟩;conv=>whnf)|(refine .inl ⟨_,Z87 _ _ _,?_⟩;conv=>whnf)|skip)
 all_goals simp only[Q0,Q1,Q2,Q3]at *
 all_goals first
  |contradiction
  |exact PSub.of_eq (by simp only[zeroV];(repeat' split)<;>first|rfl|omega|contradiction|(simp_all;done))
  |trace_state
theorem Z41(a:Attr)(v:Val)(hl:a.enum.length<=1048576):AC Tryz.prog 288 [.pv (.agg (cAttr a)),.pv (.agg (cVal v))] [] (.pv (.agg (cVal (limitV a v)))) []:=by
 refine AC.of_awp (T:=T) T_ok hm Tryz.call288 Tryz.func288 rfl rfl rfl ?_
 conv=>whnf
 iterate 8 (all_goals first|(refine⟨fun h=>?_,fun h=>?_⟩<;>(conv=>whnf))|(refine .inl ⟨_,Z55 a hl,?_⟩;conv=>whnf)|(refine .inl ⟨_,Z87 _ _ _,?_⟩;conv=>whnf)|skip)
 all_goals simp only[Q0,Q1,Q2,Q3]at *
 all_goals first
  |contradiction
  |exact PSub.of_eq (by simp only[limitV];(repeat' split)<;>first|rfl|omega|contradiction|(simp_all;done))
  |trace_state
def memN(l:List ByteArray)(n:Nat)(s:ByteArray):Bool:=(List.range n).any fun j=>decide (l.getD j default=s)
theorem Z4m{l:List ByteArray}{n k:Nat}{s:ByteArray}(hk:k<n)(h:l.getD k default=s):memN l n s=true:=by
 simp only[memN,List.any_eq_true,List.mem_range,Q0];exact⟨k,hk,h⟩
theorem Z7d{l:List ByteArray}{n:Nat}{s:ByteArray}(h:∀j,j<n->l.getD j default≠s):memN l n s=false:=by
 rw[<-Bool.not_eq_true];simp only[memN,List.any_eq_true,List.mem_range,Q0]
 rintro ⟨j,hj,e⟩
 exact h j hj e
theorem Z5h{l:List ByteArray}{i:Nat}(hi:i<l.length):idxOf l (l.getD i default)<(i:Int)↔memN l i (l.getD i default)=true:=by
 constructor
 ·intro h
  by_cases hm:memN l i (l.getD i default)=true
  ·exact hm
  exfalso;have hn:∀j,j<i->l.getD j default≠l.getD i default:=fun j hj e=>hm (Z4m hj e)
  rw[Z4i (k:=i) hi rfl hn]at h;omega
 intro h;simp only[memN,List.any_eq_true,List.mem_range,Q0]at h;have hex:∃j,j<i∧l.getD j default=l.getD i default:=h;have:∃k,k<i∧l.getD k default=l.getD i default∧∀j,j<k->l.getD j default≠l.getD i default:=by
  obtain⟨j,hj,e⟩:=hex;clear h
  induction j using Nat.strongRecOn with
  |_ j ih=>
   by_cases hb:∃m,m<j∧l.getD m default=l.getD i default
   ·obtain⟨m,hm,e2⟩:=hb;exact ih m hm (by omega) e2
   exact⟨j,hj,e,fun m hm e2=>hb ⟨m,hm,e2⟩⟩
 obtain⟨k,hk,e,hf⟩:=this;rw[Z4i (k:=k) (by omega) e hf];omega
theorem Z8l(n:Nat)(g:Nat->List PV)(hn:n<=1048576):AC Tryz.prog 57 [.pv (.ro 1 n g)] [] (.own 0) [(0,.row 1 n g)]:=by
 refine AC.nil_split (pre:=[]) (post:=[]) ?_ (fun h=>?_)
 ·refine AC.of_awp_own (T:=T) T_ok hm Tryz.call57 Tryz.func57 rfl rfl rfl ?_
  conv=>whnf
  refine⟨by omega,?_⟩
  conv=>whnf
  exact⟨by omega,fun i hi=>by simpa using PSubs.rfl⟩
 refine AC.of_awp_own (T:=T) T_ok hm Tryz.call57 Tryz.func57 rfl rfl rfl ?_
 conv=>whnf
 exact h
theorem Zmd(n:Nat)(g:Nat->List PV)(hn:n<=1048576):AC Tryz.prog 306 [.pv (.ro 7 n g)] [] (.own 0) [(0,.row 7 n g)]:=by
 refine AC.nil_split (pre:=[]) (post:=[]) ?_ (fun h=>?_)
 ·refine AC.of_awp_own (T:=T) T_ok hm Tryz.call306 Tryz.func306 rfl rfl rfl ?_
  conv=>whnf
  refine⟨by omega,?_⟩
  conv=>whnf
  exact⟨by omega,fun i hi=>by simpa using PSubs.rfl⟩
 refine AC.of_awp_own (T:=T) T_ok hm Tryz.call306 Tryz.func306 rfl rfl rfl ?_
 conv=>whnf
 exact h
theorem Zme(n:Nat)(g:Nat->List PV)(hn:n<=1048576):AC Tryz.prog 296 [.pv (.ro 3 n g)] [] (.own 0) [(0,.row 3 n g)]:=by
 refine AC.nil_split (pre:=[]) (post:=[]) ?_ (fun h=>?_)
 ·refine AC.of_awp_own (T:=T) T_ok hm Tryz.call296 Tryz.func296 rfl rfl rfl ?_
  conv=>whnf
  refine⟨by omega,?_⟩
  conv=>whnf
  exact⟨by omega,fun i hi=>by simpa using PSubs.rfl⟩
 refine AC.of_awp_own (T:=T) T_ok hm Tryz.call296 Tryz.func296 rfl rfl rfl ?_
 conv=>whnf
 exact h
theorem Zmc(n:Nat)(g:Nat->List PV)(hn:n<=1048576):AC Tryz.prog 243 [.pv (.ro 3 n g)] [] (.own 0) [(0,.row 3 n g)]:=by
 refine AC.nil_split (pre:=[]) (post:=[]) ?_ (fun h=>?_)
 ·refine AC.of_awp_own (T:=T) T_ok hm Tryz.call243 Tryz.func243 rfl rfl rfl ?_
  conv=>whnf
  refine⟨by omega,?_⟩
  conv=>whnf
  exact⟨by omega,fun i hi=>by simpa using PSubs.rfl⟩
 refine AC.of_awp_own (T:=T) T_ok hm Tryz.call243 Tryz.func243 rfl rfl rfl ?_
 conv=>whnf
 exact h
def noAttr:Attr:=⟨⟨#[]⟩,0,0,0,[],false,false⟩
def smallL{α:Type}(l:List α):Prop:=l.length<=1048576
def smallA(a:Attr):Prop:=smallL a.enum
def smallC(c:Cmd):Prop:=smallA c.param∧smallL c.effects
def smallK(c:Clu):Prop:=smallL c.attrs∧(∀i,smallA (c.attrs.getD i default))∧smallL c.commands∧(∀i,smallC (c.commands.getD i default))∧smallL c.events
def firstI(n:Nat)(p:Nat->Bool):Nat:=match(List.range n).find? p with|some i=>i|none=>n
theorem Z0u{n k:Nat}{p:Nat->Bool}(hk:k<n)(h:p k=true)(hf:∀j,j<k->p j=false):firstI n p=k:=by
 have:(List.range n).find? p=some k:=by
  rw[List.find?_range_eq_some];exact⟨h,by simpa using hk,fun j hj=>by simpa using hf j hj⟩
 simp only[firstI,this]
theorem Z0z{n:Nat}{p:Nat->Bool}(hf:∀j,j<n->p j=false):firstI n p=n:=by
 have:(List.range n).find? p=none:=by
  rw[List.find?_eq_none];intro x hx;simpa using hf x (by simpa using hx)
 simp only[firstI,this]
def attrAt(l:List Attr)(s:ByteArray):Nat:=firstI l.length fun i=>decide ((l.getD i default).name=s)
def attrOf(l:List Attr)(s:ByteArray):Attr:=if attrAt l s<l.length then l.getD (attrAt l s) default else noAttr
theorem Z83(c:Clu)(s:ByteArray)(hc:smallK c):AC Tryz.prog 194 [.pv (.agg (cClu c)),.pv (vstr s)] [] (.pv (.tup [.agg (cAttr (attrOf c.attrs s)),vbool (decide (attrAt c.attrs s<c.attrs.length))])) []:=by
 have hl:c.attrs.length<=1048576:=hc.1;refine AC.of_awp (T:=T) T_ok hm Tryz.call194 Tryz.func194 rfl rfl rfl ?_
 conv=>whnf
 refine⟨Nat,fun k=>k<=c.attrs.length∧∀j,j<k->decide ((c.attrs.getD j default).name=s)=false,fun k=>⟨[(1,.pv (vstr s)),(4,.ptr 4 0),(9,.pv (roL 7 cAttr c.attrs)),(10,.pv (vint c.attrs.length)),(11,.pv (vint k))],[(4,.pbox (cAttr noAttr))]⟩,fun k=>c.attrs.length-k,0,[],⟨qe _,fun j h=>absurd h (by omega)⟩,?_,fun k hk=>?_⟩
 ·exact⟨⟨⟨.rfl,.rfl,.rfl,.rfl,PSub.nil_ro _ _,PSub.lit_sb rfl,PSub.lit_sb rfl,trivial⟩,trivial⟩,.rfl,rfl,.rfl,.rfl,.rfl⟩
 conv=>whnf
 refine⟨fun h=>?_,fun h=>?_⟩
 ·simp only[Q0]at h
  conv=>whnf
  refine⟨by omega,?_⟩
  conv=>whnf
  refine⟨fun h2=>?_,fun h2=>?_⟩
  ·conv=>whnf
   refine .inr (.inl ⟨_,_,_,Z8l _ _ (hc.2.1 k),?_⟩)
   conv=>whnf
   have ea:attrAt c.attrs s=k:=Z0u (by omega) h2 hk.2;have hlt:k<c.attrs.length:=by omega
   refine⟨?_,?_⟩
   ·conv=>whnf
    exact PSub.of_eq (by rw[attrOf,ea,qK hlt];rfl)
   conv=>whnf
   exact PSub.lit_sb (by rw[ea];simp[hlt])
  conv=>whnf
  refine .inl ⟨wrap64 (by omega),?_⟩
  conv=>whnf
  refine⟨k+1,[],⟨by omega,fun j hj=>?_⟩,by dsimp only;omega,⟨PSubs.rfl,trivial⟩,.rfl,rfl,.rfl,.rfl,.rfl⟩
  by_cases e:j=k
  ·subst e;exact h2
  exact hk.2 j (by omega)
 conv=>whnf
 simp only[Q1]at h;have ea:attrAt c.attrs s=c.attrs.length:=Z0z fun j hj=>hk.2 j (by omega)
 refine⟨?_,?_⟩
 ·conv=>whnf
  rw[attrOf,ea,qJ (by omega)];exact PSub.agg ⟨.rfl,.rfl,.rfl,.rfl,PSub.nil_ro _ _,PSub.lit_sb rfl,PSub.lit_sb rfl,trivial⟩
 conv=>whnf
 exact PSub.lit_sb (by rw[ea];simp)
def manyE(l:List Cmd):Bool:=(List.range l.length).any fun i=>decide (12<(l.getD i default).effects.length)
theorem Za7{l:List Cmd}{k:Nat}(hk:k<l.length)(h:12<(l.getD k default).effects.length):manyE l=true:=by
 simp only[manyE,List.any_eq_true,List.mem_range,Q0];exact⟨k,hk,h⟩
theorem Zfv{l:List Cmd}(h:∀j,j<l.length->¬12<(l.getD j default).effects.length):manyE l=false:=by
 rw[<-Bool.not_eq_true];simp only[manyE,List.any_eq_true,List.mem_range,Q0]
 rintro ⟨j,hj,e⟩
 exact h j hj e
def wideB(c:Clu):Bool:=decide (12<c.attrs.length)||decide (12<c.commands.length)||decide (12<c.events.length)||manyE c.commands
theorem Zjf(c:Clu)(hc:smallK c):AC Tryz.prog 186 [.pv (.agg (cClu c))] [] (.pv (vbool (wideB c))) []:=by
 have hl:c.commands.length<=1048576:=hc.2.2.1;refine AC.of_awp (T:=T) T_ok hm Tryz.call186 Tryz.func186 rfl rfl rfl ?_
 conv=>whnf
 refine⟨Nat,fun k=>k<=c.commands.length∧∀j,j<k->¬12<(c.commands.getD j default).effects.length,fun k=>⟨[(1,.ptr 1 0),(6,.pv (roL 9 cCmd c.commands)),(7,.pv (vint c.commands.length)),(8,.pv (vint k))],[(1,.pbox (cClu c))]⟩,fun k=>c.commands.length-k,0,[],⟨qe _,fun j h=>absurd h (by omega)⟩,⟨⟨PSubs.rfl,trivial⟩,rfl,.rfl,.rfl,.rfl⟩,fun k hk=>?_⟩
 conv=>whnf
 refine⟨fun h=>?_,fun h=>?_⟩
 ·simp only[Q0]at h
  conv=>whnf
  refine⟨by omega,?_⟩
  conv=>whnf
  refine⟨fun h2=>?_,fun h2=>?_⟩
  ·conv=>whnf
   simp only[Q0,Q4]at h2;exact PSub.lit_sb (by rw[wideB,Za7 (k:=k) (by omega) (by omega)];simp)
  conv=>whnf
  simp only[Q1,Q4]at h2;refine .inl ⟨wrap64 (by omega),?_⟩
  conv=>whnf
  refine⟨k+1,[],⟨by omega,fun j hj=>?_⟩,by dsimp only;omega,⟨PSubs.rfl,trivial⟩,rfl,.rfl,.rfl,.rfl⟩
  by_cases e:j=k
  ·subst e;omega
  exact hk.2 j (by omega)
 simp only[Q1]at h;have em:manyE c.commands=false:=Zfv fun j hj=>hk.2 j (by omega)
 have e0:wideB c=(decide (12<c.attrs.length)||decide (12<c.commands.length)||decide (12<c.events.length)):=by rw[wideB,em];simp
 rw[e0]
 conv=>whnf
 iterate 3 (all_goals first|(refine⟨fun h=>?_,fun h=>?_⟩<;>(conv=>whnf))|skip)
 all_goals simp only[Q0,Q1]at *
 all_goals first
  |exact PSub.lit_sb (by symm;simp;omega)
  |exact PSub.sb (by rw[qt];simp;omega)
  |trace_state
theorem Z7b{α:Type}[Inhabited α]{a b:List α}(hl:a.length=b.length)(h:∀i,i<a.length->a.getD i default=b.getD i default):a=b:=by
 apply List.ext_getElem hl;intro i h1 h2;have:=h i h1;simpa[List.getD,h1,h2]using this
theorem Zmj(a b:List ByteArray)(ha:a.length<=1048576):AC Tryz.prog 270 [.pv (roL 1 cstr a),.pv (roL 1 cstr b)] [] (.pv (vbool (decide (a=b)))) []:=by
 refine AC.of_awp (T:=T) T_ok hm Tryz.call270 Tryz.func270 rfl rfl rfl ?_
 conv=>whnf
 refine⟨fun h=>?_,fun h=>?_⟩
 ·conv=>whnf
  simp only[Q2,Q1]at h;exact PSub.lit_sb (by symm;simp only[Q1];intro e;exact h (by rw[e]))
 conv=>whnf
 simp only[Q3,Q0]at h;refine⟨Nat,fun k=>k<=a.length∧∀j,j<k->a.getD j default=b.getD j default,fun k=>⟨[(0,.pv (roL 1 cstr a)),(1,.pv (roL 1 cstr b)),(12,.pv (vint a.length)),(13,.pv (vint k))],[]⟩,fun k=>a.length-k,0,[],⟨qe _,fun j h=>absurd h (by omega)⟩,⟨.rfl,.rfl,.rfl,.rfl⟩,fun k hk=>?_⟩
 conv=>whnf
 refine⟨fun h2=>?_,fun h2=>?_⟩
 ·simp only[Q0]at h2
  conv=>whnf
  refine⟨by kernel_rfl,?_⟩
  conv=>whnf
  refine⟨by omega,?_⟩
  conv=>whnf
  refine⟨by omega,?_⟩
  conv=>whnf
  refine⟨by kernel_rfl,?_⟩
  conv=>whnf
  refine⟨fun h3=>?_,fun h3=>?_⟩
  ·conv=>whnf
   simp only[Q2,Q1]at h3;exact PSub.lit_sb (by symm;simp only[Q1];intro e;exact h3 (by rw[e]))
  conv=>whnf
  simp only[Q3,Q0,Q4]at h3;refine .inl ⟨wrap64 (by omega),?_⟩
  conv=>whnf
  refine⟨k+1,[],⟨by omega,fun j hj=>?_⟩,by dsimp only;omega,.rfl,.rfl,.rfl,.rfl⟩
  by_cases e:j=k
  ·subst e;exact h3
  exact hk.2 j (by omega)
 conv=>whnf
 simp only[Q1]at h2;exact PSub.lit_sb (by symm;simp only[Q0];exact Z7b (by omega) fun i hi=>hk.2 i (by omega))
theorem Zbz(a b:List ByteArray)(ha:a.length<=1048576):AC Tryz.prog 39 [.pv (roL 1 cstr a),.pv (roL 1 cstr b)] [] (.pv (vbool (decide (a=b)))) []:=by
 refine AC.of_awp (T:=T) T_ok hm Tryz.call39 Tryz.func39 rfl rfl rfl ?_
 conv=>whnf
 refine⟨fun h=>?_,fun h=>?_⟩
 ·conv=>whnf
  simp only[Q2,Q1]at h;exact PSub.lit_sb (by symm;simp only[Q1];intro e;exact h (by rw[e]))
 conv=>whnf
 simp only[Q3,Q0]at h;refine⟨Nat,fun k=>k<=a.length∧∀j,j<k->a.getD j default=b.getD j default,fun k=>⟨[(0,.pv (roL 1 cstr a)),(1,.pv (roL 1 cstr b)),(5,.pv (vint k))],[]⟩,fun k=>a.length-k,0,[],⟨qe _,fun j h=>absurd h (by omega)⟩,⟨.rfl,.rfl,.rfl⟩,fun k hk=>?_⟩
 conv=>whnf
 refine⟨fun h2=>?_,fun h2=>?_⟩
 ·simp only[Q0]at h2
  conv=>whnf
  refine⟨by kernel_rfl,?_⟩
  conv=>whnf
  refine⟨by omega,?_⟩
  conv=>whnf
  refine⟨by omega,?_⟩
  conv=>whnf
  refine⟨by kernel_rfl,?_⟩
  conv=>whnf
  refine⟨fun h3=>?_,fun h3=>?_⟩
  ·conv=>whnf
   simp only[Q2,Q1]at h3;exact PSub.lit_sb (by symm;simp only[Q1];intro e;exact h3 (by rw[e]))
  conv=>whnf
  simp only[Q3,Q0,Q4]at h3;refine .inl ⟨wrap64 (by omega),?_⟩
  conv=>whnf
  refine⟨k+1,[],⟨by omega,fun j hj=>?_⟩,by dsimp only;omega,.rfl,.rfl,.rfl⟩
  by_cases e:j=k
  ·subst e;exact h3
  exact hk.2 j (by omega)
 conv=>whnf
 simp only[Q1]at h2;exact PSub.lit_sb (by symm;simp only[Q0];exact Z7b (by omega) fun i hi=>hk.2 i (by omega))
theorem Z37(l:List ByteArray)(n:Nat)(x:ByteArray)(hl:l.length<=1048576):AC Tryz.prog 135 [.pv (roL 1 cstr l),.pv (vstr x)] [] (.pv (vbool (decide (0<=idxOf l x)))) []:=by
 refine AC.of_awp (T:=T) T_ok hm Tryz.call135 Tryz.func135 rfl rfl rfl ?_
 conv=>whnf
 refine .inl ⟨_,Zcl l x hl,?_⟩
 conv=>whnf
 exact PSub.rfl
def idxN(l:List ByteArray)(n:Nat)(x:ByteArray):Int:=if firstI n (fun i=>decide (l.getD i default=x))<n then(firstI n (fun i=>decide (l.getD i default=x)):Int)else -1
theorem Zmq(l:List ByteArray)(n:Nat)(x:ByteArray)(hl:n<=1048576):AC Tryz.prog 189 [.pv (.ro 1 n fun i=>cstr (l.getD i default)),.pv (vstr x)] [] (.pv (vint (idxN l n x))) []:=by
 refine AC.of_awp (T:=T) T_ok hm Tryz.call189 Tryz.func189 rfl rfl rfl ?_
 conv=>whnf
 refine⟨Nat,fun k=>k<=n∧∀j,j<k->decide (l.getD j default=x)=false,fun k=>⟨[(0,.pv (.ro 1 n fun i=>cstr (l.getD i default))),(1,.pv (vstr x)),(7,.pv (vint n)),(8,.pv (vint k))],[]⟩,fun k=>n-k,0,[],⟨qe _,fun j h=>absurd h (by omega)⟩,⟨.rfl,.rfl,.rfl,.rfl⟩,fun k hk=>?_⟩
 conv=>whnf
 refine⟨fun h=>?_,fun h=>?_⟩
 ·simp only[Q0]at h;refine⟨by omega,?_⟩
  conv=>whnf
  refine⟨fun h2=>?_,fun h2=>?_⟩
  ·conv=>whnf
   simp only[Q0,Q4]at h2;have e:firstI n (fun i=>decide (l.getD i default=x))=k:=Z0u (by omega) (by simpa using h2.symm) hk.2;exact PSub.int (by rw[idxN,e,qK (by omega)])
  conv=>whnf
  refine .inl ⟨wrap64 (by omega),?_⟩
  conv=>whnf
  simp only[decide_eq_false_iff_not,Int.toNat_natCast]at h2;refine⟨k+1,[],⟨by omega,fun j hj=>?_⟩,by dsimp only;omega,.rfl,.rfl,.rfl,.rfl⟩
  by_cases e:j=k
  ·subst e;simpa using fun e=>h2 e.symm
  exact hk.2 j (by omega)
 conv=>whnf
 simp only[Q1]at h;have e:firstI n (fun i=>decide (l.getD i default=x))=n:=Z0z fun j hj=>hk.2 j (by omega)
 exact PSub.int (by rw[idxN,e,qJ (by omega)])
theorem Zqb{l:List ByteArray}{n:Nat}{x:ByteArray}:decide (0<=idxN l n x)=memN l n x:=by
 by_cases h:∃j,j<n∧l.getD j default=x
 ·obtain⟨j,hj,e⟩:=h;rw[Z4m hj e];unfold idxN;split
  ·simp
  rename_i hn;exfalso;have hnone:(List.range n).find? (fun i=>decide (l.getD i default=x))=none:=by
   cases hf:(List.range n).find? (fun i=>decide (l.getD i default=x))with
   |none=>rfl
   |some i=>
    exfalso;apply hn;simp only[firstI,hf];have:=List.mem_of_find?_eq_some hf;simpa using this
  rw[List.find?_eq_none]at hnone;exact hnone j (by simpa using hj) (by simpa using e)
 rw[Z7d fun j hj e=>h ⟨j,hj,e⟩];have e:firstI n (fun i=>decide (l.getD i default=x))=n:=Z0z fun j hj=>by simpa using fun e=>h ⟨j,hj,e⟩
 unfold idxN;rw[e,qJ (by omega)];simp
theorem Zmi(l:List ByteArray)(n:Nat)(x:ByteArray)(hl:n<=1048576):AC Tryz.prog 135 [.pv (.ro 1 n fun i=>cstr (l.getD i default)),.pv (vstr x)] [] (.pv (vbool (memN l n x))) []:=by
 refine AC.of_awp (T:=T) T_ok hm Tryz.call135 Tryz.func135 rfl rfl rfl ?_
 conv=>whnf
 refine .inl ⟨_,Zmq l n x hl,?_⟩
 conv=>whnf
 exact PSub.sb Zqb
def alikeB(a b:Attr):Bool:=decide (a.kind=b.kind)&&decide (a.enum=b.enum)
theorem Zjb(a b:Attr)(ha:smallA a):AC Tryz.prog 269 [.pv (.agg (cAttr a)),.pv (.agg (cAttr b))] [] (.pv (vbool (alikeB a b))) []:=by
 refine AC.of_awp (T:=T) T_ok hm Tryz.call269 Tryz.func269 rfl rfl rfl ?_
 conv=>whnf
 refine⟨fun h=>?_,fun h=>?_⟩
 ·conv=>whnf
  refine .inl ⟨_,Zmj a.enum b.enum ha,?_⟩
  conv=>whnf
  exact PSub.sb (by simp[alikeB,h])
 conv=>whnf
 exact PSub.lit_sb (by simp[alikeB,h])
def cmdAt(l:List Cmd)(s:ByteArray):Nat:=firstI l.length fun i=>decide ((l.getD i default).name=s)
def noCmd:Cmd:=⟨⟨#[]⟩,noAttr,[]⟩
def cmdOf(l:List Cmd)(s:ByteArray):Cmd:=if cmdAt l s<l.length then l.getD (cmdAt l s) default else noCmd
theorem Z84(c:Clu)(s:ByteArray)(hc:smallK c):AC Tryz.prog 196 [.pv (.agg (cClu c)),.pv (vstr s)] [] (.pv (.tup [.agg (cCmd (cmdOf c.commands s)),vbool (decide (cmdAt c.commands s<c.commands.length))])) []:=by
 have hl:c.commands.length<=1048576:=hc.2.2.1;refine AC.of_awp (T:=T) T_ok hm Tryz.call196 Tryz.func196 rfl rfl rfl ?_
 conv=>whnf
 refine loop_k (ι:=Nat) [1,4,9,10] [4] (fun k=>k<=c.commands.length∧(∀j,j<k->decide ((c.commands.getD j default).name=s)=false)) (fun k=>c.commands.length-k) 0 (fun k=>[(11,.pv (vint k))]) (fun _=>[]) [] ⟨qe _,fun j h=>absurd h (by omega)⟩ ?_ (fun k hk=>?_)
 ·exact QD
 obtain⟨hkn,hinv⟩:=hk
 conv=>whnf
 repeat(any_goals((first|refine QB ?_ ?_<;>intro h<;>(try simp only[Q0,Q1,Q2,Q3,Q4,Q5,Q6,Q7,Q8,reduceCtorEq]at h)|refine .inr (.inl ⟨_,_,_,Z8l _ _ (hc.2.2.2.1 k).1,?_⟩)|refine .inr (.inl ⟨_,_,_,Zmc _ _ (hc.2.2.2.1 k).2,?_⟩)|refine QI ?_|refine QW ?_)<;>conv=>whnf))
 ·have ea:cmdAt c.commands s=k:=Z0u (by omega) (by simpa using h) hinv;have hlt:k<c.commands.length:=by omega
  refine⟨?_,?_⟩<;>(conv=>whnf)
  ·exact PSub.of_eq (by rw[cmdOf,ea,qK hlt];rfl)
  exact PSub.lit_sb (by rw[ea];simp[hlt])
 ·refine⟨k+1,[],⟨by omega,?_⟩,by first|omega|(dsimp only;omega),?_⟩;rotate_left
  ·exact QD
  intro j hj
  by_cases e:j=k
  ·subst e;simpa using h
  exact hinv j (by omega)
 have ea:cmdAt c.commands s=c.commands.length:=Z0z fun j hj=>hinv j (by omega)
 refine⟨?_,?_⟩<;>(conv=>whnf)
 ·rw[cmdOf,ea,qJ (by omega)];exact PSub.agg ⟨.rfl,.rfl,.rfl,.rfl,.rfl,PSub.nil_ro _ _,PSub.lit_sb rfl,PSub.lit_sb rfl,PSub.nil_ro _ _,trivial⟩
 exact PSub.lit_sb (by rw[ea];simp)
def satI(n:Int):Int:=min (max n (-1099511627776)) 1099511627776
theorem Z88(n:Int):AC Tryz.prog 250 [.pv (vint n)] [] (.pv (vint (satI n))) []:=by
 refine AC.of_awp (T:=T) T_ok hm Tryz.call250 Tryz.func250 rfl rfl rfl ?_
 conv=>whnf
 exact PSub.int (by simp only[satI];(repeat' split)<;>omega)
def smallN(n:Int):Prop:=-4611686018427387904<=n∧n<=4611686018427387903
theorem Zbv(a b:Int)(ha:smallN a)(hb:smallN b):AC Tryz.prog 213 [.pv (vint a),.pv (vint b)] [] (.pv (vint (satI (a+b)))) []:=by
 obtain⟨h1,h2⟩:=ha;obtain⟨h3,h4⟩:=hb;refine AC.of_awp (T:=T) T_ok hm Tryz.call213 Tryz.func213 rfl rfl rfl ?_
 conv=>whnf
 refine .inl ⟨wrap64 (by omega),?_⟩
 conv=>whnf
 repeat(any_goals((first|refine QB ?_ ?_<;>intro h<;>(try simp only[Q0,Q1,Q2,Q3,Q4,Q5,Q6,Q7,Q8,reduceCtorEq]at h)|refine .inl ⟨_,Z88 (a+b),?_⟩)<;>conv=>whnf))
 all_goals(try simp only[Q0,Q1,Q2,Q3,Q4,Q5,Q6,Q7,Q8,reduceCtorEq]at *)
 all_goals first
  |contradiction
  |(exfalso;omega)
  |exact PSub.rfl
  |(refine PSub.int ?_;simp only[satI];(repeat' split)<;>first|rfl|omega|(simp_all[-List.getD_eq_getElem?_getD];done)|(simp_all[-List.getD_eq_getElem?_getD];omega))
  |(refine PSub.sb ?_;simp_all[satI,-List.getD_eq_getElem?_getD];done)
  |(refine PSub.lit_sb ?_;simp_all[satI,-List.getD_eq_getElem?_getD];done)
  |(refine PSub.sb_lit ?_;simp_all[satI,-List.getD_eq_getElem?_getD];done)
  |(refine PSub.sb ?_;rw[qt];simp_all[satI,-List.getD_eq_getElem?_getD];done)
  |(refine PSub.lit_sb ?_;rw[qt];simp_all[satI,-List.getD_eq_getElem?_getD];done)
  |(refine PSub.sb_lit ?_;rw[qt];simp_all[satI,-List.getD_eq_getElem?_getD];done)
  |skip
def suitsB(x:Eff)(a p:Attr):Bool:=if x.kind=1 then decide (a.kind≠4)&&decide (fitsE a ⟨a.kind,x.n,⟨#[]⟩⟩=0)else if x.kind=2 then alikeB a p else if x.kind=3 then decide (a.kind=2)else decide (a.kind=1)
theorem Zje(x:Eff)(a p:Attr)(ha:smallA a):AC Tryz.prog 262 [.pv (.agg (cEff x)),.pv (.agg (cAttr a)),.pv (.agg (cAttr p))] [] (.pv (vbool (suitsB x a p))) []:=by
 refine AC.of_awp (T:=T) T_ok hm Tryz.call262 Tryz.func262 rfl rfl rfl ?_
 conv=>whnf
 repeat(any_goals((first|refine QB ?_ ?_<;>intro h<;>(try simp only[Q0,Q1,Q2,Q3,Q4,Q5,Q6,Q7,Q8,reduceCtorEq]at h)|refine .inl ⟨_,Z56 a ⟨a.kind,x.n,⟨#[]⟩⟩ ha,?_⟩|refine .inl ⟨_,Zjb a p ha,?_⟩)<;>conv=>whnf))
 all_goals(try simp only[Q0,Q1,Q2,Q3,Q4,Q5,Q6,Q7,Q8,reduceCtorEq]at *)
 all_goals first
  |contradiction
  |(exfalso;omega)
  |exact PSub.rfl
  |(refine PSub.int ?_;simp only[suitsB];(repeat' split)<;>first|rfl|omega|(simp_all[-List.getD_eq_getElem?_getD];done)|(simp_all[-List.getD_eq_getElem?_getD];omega))
  |(refine PSub.sb ?_;simp_all[suitsB,-List.getD_eq_getElem?_getD];done)
  |(refine PSub.lit_sb ?_;simp_all[suitsB,-List.getD_eq_getElem?_getD];done)
  |(refine PSub.sb_lit ?_;simp_all[suitsB,-List.getD_eq_getElem?_getD];done)
  |(refine PSub.sb ?_;rw[qt];simp_all[suitsB,-List.getD_eq_getElem?_getD];done)
  |(refine PSub.lit_sb ?_;rw[qt];simp_all[suitsB,-List.getD_eq_getElem?_getD];done)
  |(refine PSub.sb_lit ?_;rw[qt];simp_all[suitsB,-List.getD_eq_getElem?_getD];done)
  |skip
def effE(c:Clu)(p:Attr)(x:Eff):Int:=
 if x.kind<1∨4<x.kind then 7 else if ¬attrAt c.attrs x.attr<c.attrs.length then 8 else if(attrOf c.attrs x.attr).writable=false then 24
 else if suitsB x (attrOf c.attrs x.attr) p=false then 11 else if x.kind=3∧satI x.n≠x.n then 2 else if(x.kind=2∨x.kind=4)∧x.n≠0 then 4 else 0
theorem Zhz{c:Clu}{s:ByteArray}(hc:smallK c):smallA (attrOf c.attrs s):=by
 unfold attrOf;split
 ·exact hc.2.1 _
 exact qe _
theorem Zjc(c:Clu)(p:Attr)(x:Eff)(hc:smallK c):AC Tryz.prog 239 [.pv (.agg (cClu c)),.pv (.agg (cAttr p)),.pv (.agg (cEff x))] [] (.pv (vint (effE c p x))) []:=by
 refine AC.of_awp (T:=T) T_ok hm Tryz.call239 Tryz.func239 rfl rfl rfl ?_
 conv=>whnf
 repeat(any_goals((first|refine QB ?_ ?_<;>intro h<;>(try simp only[Q0,Q1,Q2,Q3,Q4,Q5,Q6,Q7,Q8,reduceCtorEq]at h)|refine .inl ⟨_,Z83 c x.attr hc,?_⟩|refine .inl ⟨_,Zje x (attrOf c.attrs x.attr) p (Zhz hc),?_⟩|refine .inl ⟨_,Z88 x.n,?_⟩|refine QK ?_)<;>conv=>whnf))
 all_goals(try simp only[Q0,Q1,Q2,Q3,Q4,Q5,Q6,Q7,Q8,reduceCtorEq]at *)
 all_goals first
  |contradiction
  |(exfalso;omega)
  |exact PSub.rfl
  |(refine PSub.int ?_;simp only[effE];(repeat' split)<;>first|rfl|omega|(simp_all[-List.getD_eq_getElem?_getD];done)|(simp_all[-List.getD_eq_getElem?_getD];omega))
  |(refine PSub.sb ?_;simp_all[effE,-List.getD_eq_getElem?_getD];done)
  |(refine PSub.lit_sb ?_;simp_all[effE,-List.getD_eq_getElem?_getD];done)
  |(refine PSub.sb_lit ?_;simp_all[effE,-List.getD_eq_getElem?_getD];done)
  |(refine PSub.sb ?_;rw[qt];simp_all[effE,-List.getD_eq_getElem?_getD];done)
  |(refine PSub.lit_sb ?_;rw[qt];simp_all[effE,-List.getD_eq_getElem?_getD];done)
  |(refine PSub.sb_lit ?_;rw[qt];simp_all[effE,-List.getD_eq_getElem?_getD];done)
  |skip
def zeroA(a:Attr):Bool:=decide (a=noAttr)
theorem Z7y{a:Attr}:zeroA a=true↔(a.name=⟨#[]⟩∧a.kind=0∧a.min=0∧a.max=0∧a.enum.length=0∧a.writable=false∧a.safety=false):=by
 obtain⟨a1,a2,a3,a4,a5,a6,a7⟩:=a;simp[zeroA,noAttr]
theorem Zjg(a:Attr):AC Tryz.prog 238 [.pv (.agg (cAttr a))] [] (.pv (vbool (zeroA a))) []:=by
 refine AC.of_awp (T:=T) T_ok hm Tryz.call238 Tryz.func238 rfl rfl rfl ?_
 conv=>whnf
 repeat(any_goals((first|refine QB ?_ ?_<;>intro h<;>(try simp only[Q0,Q1,Q2,Q3,Q4,Q5,Q6,Q7,Q8,reduceCtorEq]at h))<;>conv=>whnf))
 all_goals first|(refine PSub.sb ?_;rw[qt,Z7y];simp_all;done)|(refine PSub.lit_sb ?_;rw[qt,Z7y];simp_all;done)|skip
def anyN(n:Nat)(p:Nat->Bool):Bool:=(List.range n).any p
theorem Z0a{n k:Nat}{p:Nat->Bool}(hk:k<n)(h:p k=true):anyN n p=true:=by
 simp only[anyN,List.any_eq_true,List.mem_range];exact⟨k,hk,h⟩
theorem Z0d{n:Nat}{p:Nat->Bool}(h:∀j,j<n->p j=false):anyN n p=false:=by
 rw[<-Bool.not_eq_true];simp only[anyN,List.any_eq_true,List.mem_range]
 rintro ⟨j,hj,e⟩
 rw[h j hj]at e;cases e
def cmdE(c:Clu)(i:Nat):Int:=
 if validName (c.commands.getD i default).name=false then 10 else if anyN i (fun j=>decide ((c.commands.getD j default).name=(c.commands.getD i default).name))=true then 9
 else if(c.commands.getD i default).param.kind=0∧zeroA (c.commands.getD i default).param=false then 4
 else if(c.commands.getD i default).param.kind≠0∧defE (c.commands.getD i default).param≠0 then defE (c.commands.getD i default).param
 else firstE (c.commands.getD i default).effects.length fun j=>effE c (c.commands.getD i default).param ((c.commands.getD i default).effects.getD j default)
def zAttr:List PV:=[vstr ⟨#[]⟩,vint 0,vint 0,vint 0,.val (.slice none 0 0),.val (.bool false),.val (.bool false)]
theorem Zg9:PSubs zAttr (cAttr noAttr):=⟨.rfl,.rfl,.rfl,.rfl,PSub.nil_ro _ _,PSub.lit_sb rfl,PSub.lit_sb rfl,trivial⟩
theorem Zjd(c:Clu)(i:Nat)(hc:smallK c)(hi:i<c.commands.length):AC Tryz.prog 188 [.pv (.agg (cClu c)),.pv (vint i)] [] (.pv (vint (cmdE c i))) []:=by
 have hl:c.commands.length<=1048576:=hc.2.2.1;have hd:=hc.2.2.2.1 i;have hd2:(c.commands.getD i default).effects.length<=1048576:=hd.2;refine AC.of_awp (T:=T) T_ok hm Tryz.call188 Tryz.func188 rfl rfl rfl ?_
 conv=>whnf
 refine qa (by omega) ?_
 conv=>whnf
 refine .inl ⟨_,Z0t (c.commands.getD i default).name,?_⟩
 conv=>whnf
 refine⟨fun h=>?_,fun h=>?_⟩<;>(try simp only[Q0,Q1,Q2,Q3,Q4,Q5,Q6,Q7,Q8,reduceCtorEq]at h)<;>(conv=>whnf)
 ·exact PSub.int (by simp[cmdE,h,-List.getD_eq_getElem?_getD])
 refine qa (by omega) ?_
 conv=>whnf
 have hv:=h;refine loop_k (ι:=Nat) [2,5,24,25] [2,5] (fun k=>k<=i∧(∀j,j<k->decide ((c.commands.getD j default).name=(c.commands.getD i default).name)=false)) (fun k=>i-k) 0 (fun k=>[(26,.pv (vint k))]) (fun _=>[]) [] ⟨qe _,fun j h=>absurd h (by omega)⟩ ?_ (fun k hk=>?_)
 ·exact QD
 obtain⟨hkn,hinv⟩:=hk
 conv=>whnf
 repeat(any_goals((first|refine QB ?_ ?_<;>intro h<;>(try simp only[Q0,Q1,Q2,Q3,Q4,Q5,Q6,Q7,Q8,reduceCtorEq]at h)|refine .inl ⟨_,Zjg (c.commands.getD i default).param,?_⟩|refine .inl ⟨_,Z55 (c.commands.getD i default).param hd.1,?_⟩|refine QI ?_|refine QW ?_)<;>conv=>whnf))
 case' refine_2.refine_2.refine_1.refine_2=>
  refine⟨k+1,[],⟨by omega,?_⟩,by first|omega|(dsimp only;omega),?_⟩;rotate_left
  ·exact QD
  intro j hj
  by_cases e:j=k
  ·subst e;first|exact h|simpa[-List.getD_eq_getElem?_getD]using h|simp_all[-List.getD_eq_getElem?_getD]
  exact hinv j (by omega)
 ·have e:=Z0a (n:=i) (p:=fun j=>decide ((c.commands.getD j default).name=(c.commands.getD i default).name)) (k:=k) (by omega) (by simpa[-List.getD_eq_getElem?_getD]using h);exact PSub.int (by simp[cmdE,hv,e,-List.getD_eq_getElem?_getD])
 all_goals have ef:anyN i (fun j=>decide ((c.commands.getD j default).name=(c.commands.getD i default).name))=false:=Z0d fun j hj=>hinv j (by omega)
 all_goals try(exact PSub.int (by simp_all[cmdE,-List.getD_eq_getElem?_getD];done))
 all_goals
  have e0:cmdE c i=firstE (c.commands.getD i default).effects.length fun j=>effE c (c.commands.getD i default).param ((c.commands.getD i default).effects.getD j default):=by simp_all[cmdE,-List.getD_eq_getElem?_getD]
  rw[e0];clear hinv hkn;refine loop_k (ι:=Nat) [2,5,51,52] [2,5] (fun k2=>k2<=(c.commands.getD i default).effects.length∧(∀j,j<k2->effE c (c.commands.getD i default).param ((c.commands.getD i default).effects.getD j default)=0)) (fun k2=>(c.commands.getD i default).effects.length-k2) 0 (fun k2=>[(53,.pv (vint k2))]) (fun _=>[]) [] ⟨qe _,fun j h=>absurd h (by omega)⟩ ?_ (fun k2 hk=>?_)
  ·exact QD
  obtain⟨hkn,hinv⟩:=hk
  conv=>whnf
  repeat(any_goals((first|refine QB ?_ ?_<;>intro h<;>(try simp only[Q0,Q1,Q2,Q3,Q4,Q5,Q6,Q7,Q8,reduceCtorEq]at h)|refine .inl ⟨_,Zjc c (c.commands.getD i default).param ((c.commands.getD i default).effects.getD k2 default) hc,?_⟩|refine QI ?_|refine QW ?_)<;>conv=>whnf))
  ·exact PSub.int (by rw[Z06 (k:=k2) (by omega) h hinv])
  ·refine⟨k2+1,[],⟨by omega,?_⟩,by first|omega|(dsimp only;omega),?_⟩;rotate_left
   ·exact QD
   intro j hj
   by_cases e:j=k2
   ·subst e;first|exact h|simpa[-List.getD_eq_getElem?_getD]using h|simp_all[-List.getD_eq_getElem?_getD]
   exact hinv j (by omega)
  exact PSub.int (by rw[Z0c fun j hj=>hinv j (by omega)])
def attrE(l:List Attr)(i:Nat):Int:=if defE (l.getD i default)≠0 then defE (l.getD i default)else if anyN i (fun j=>decide ((l.getD j default).name=(l.getD i default).name))=true then 9 else 0
def evE(l:List ByteArray)(i:Nat):Int:=if validName (l.getD i default)=false then 10 else if memN l i (l.getD i default)=true then 9 else 0
def checkE(c:Clu):Int:=
 if validName c.name=false then 10 else if wideB c=true then 3
 else if firstE c.attrs.length (attrE c.attrs)≠0 then firstE c.attrs.length (attrE c.attrs)
 else if firstE c.commands.length (cmdE c)≠0 then firstE c.commands.length (cmdE c)
 else firstE c.events.length (evE c.events)
theorem Zbn(c:Clu)(hc:smallK c):AC Tryz.prog 128 [.pv (.agg (cClu c))] [] (.pv (vint (checkE c))) []:=by
 have hl1:c.attrs.length<=1048576:=hc.1;have hl2:c.commands.length<=1048576:=hc.2.2.1;have hl3:c.events.length<=1048576:=hc.2.2.2.2;refine AC.of_awp (T:=T) T_ok hm Tryz.call128 Tryz.func128 rfl rfl rfl ?_
 conv=>whnf
 refine .inl ⟨_,Z0t c.name,?_⟩
 conv=>whnf
 refine⟨fun h=>?_,fun h=>?_⟩<;>(try simp only[Q0,Q1,Q2,Q3,Q4,Q5,Q6,Q7,Q8,reduceCtorEq]at h)<;>(conv=>whnf)
 ·exact PSub.int (by simp[checkE,h,-List.getD_eq_getElem?_getD])
 have hv:=h;refine .inl ⟨_,Zjf c hc,?_⟩
 conv=>whnf
 refine⟨fun h=>?_,fun h=>?_⟩<;>(try simp only[Q0,Q1,Q2,Q3,Q4,Q5,Q6,Q7,Q8,reduceCtorEq]at h)<;>(conv=>whnf)
 ·exact PSub.int (by simp[checkE,h,hv,-List.getD_eq_getElem?_getD])
 have hw:=h;refine loop_k (ι:=Nat) [1,19,20] [1] (fun k=>k<=c.attrs.length∧(∀j,j<k->attrE c.attrs j=0)) (fun k=>c.attrs.length-k) 0 (fun k=>[(21,.pv (vint k))]) (fun _=>[]) [] ⟨qe _,fun j h=>absurd h (by omega)⟩ ?_ (fun k hk=>?_)
 ·exact QD
 obtain⟨hkn,hinv⟩:=hk
 conv=>whnf
 refine⟨fun h=>?_,fun h=>?_⟩<;>(try simp only[Q0,Q1,Q2,Q3,Q4,Q5,Q6,Q7,Q8,reduceCtorEq]at h)<;>(conv=>whnf)
 ·refine qa (by omega) ?_
  conv=>whnf
  refine .inl ⟨_,Z55 (c.attrs.getD k default) (hc.2.1 k),?_⟩
  conv=>whnf
  refine⟨fun h=>?_,fun h=>?_⟩<;>(try simp only[Q0,Q1,Q2,Q3,Q4,Q5,Q6,Q7,Q8,reduceCtorEq]at h)<;>(conv=>whnf)
  ·have e:attrE c.attrs k=defE (c.attrs.getD k default):=by simp[attrE,h,-List.getD_eq_getElem?_getD]
   have e2:=Z06 (n:=c.attrs.length) (k:=k) (f:=attrE c.attrs) (by omega) (by rw[e];exact h) hinv;rw[e]at e2;exact PSub.int (by simp[checkE,e2,h,hv,hw,-List.getD_eq_getElem?_getD])
  have hd:=h;refine qa (by omega) ?_
  conv=>whnf
  have hinv1:=hinv;refine loop_k (ι:=Nat) [1,4,19,20,21,34,35] [1,4] (fun k2=>k2<=k∧(∀j,j<k2->decide ((c.attrs.getD j default).name=(c.attrs.getD k default).name)=false)) (fun k2=>k-k2) 0 (fun k2=>[(36,.pv (vint k2))]) (fun _=>[]) [] ⟨qe _,fun j h=>absurd h (by omega)⟩ ?_ (fun k2 hk=>?_)
  ·exact QD
  obtain⟨hkn,hinv⟩:=hk
  conv=>whnf
  repeat(any_goals((first|refine QB ?_ ?_<;>intro h<;>(try simp only[Q0,Q1,Q2,Q3,Q4,Q5,Q6,Q7,Q8,reduceCtorEq]at h)|refine QI ?_|refine QW ?_)<;>conv=>whnf))
  ·have e0:=Z0a (n:=k) (k:=k2) (p:=fun j=>decide ((c.attrs.getD j default).name=(c.attrs.getD k default).name)) (by omega) (by simpa[-List.getD_eq_getElem?_getD]using h);have e:attrE c.attrs k=9:=by simp[attrE,hd,e0,-List.getD_eq_getElem?_getD]
   have e2:=Z06 (n:=c.attrs.length) (k:=k) (f:=attrE c.attrs) (by omega) (by rw[e];decide) hinv1;rw[e]at e2;exact PSub.int (by simp[checkE,e2,hv,hw,-List.getD_eq_getElem?_getD])
  ·refine⟨k2+1,[],⟨by omega,?_⟩,by first|omega|(dsimp only;omega),?_⟩;rotate_left
   ·exact QD
   intro j hj
   by_cases e:j=k2
   ·subst e;first|exact h|simpa[-List.getD_eq_getElem?_getD]using h|simp_all[-List.getD_eq_getElem?_getD]
   exact hinv j (by omega)
  have e0:=Z0d (n:=k) (p:=fun j=>decide ((c.attrs.getD j default).name=(c.attrs.getD k default).name)) (fun j hj=>hinv j (by omega));have e:attrE c.attrs k=0:=by simp[attrE,hd,e0,-List.getD_eq_getElem?_getD]
  refine⟨k+1,[],⟨by omega,?_⟩,by first|omega|(dsimp only;omega),?_⟩;rotate_left
  ·exact QD
  intro j hj
  by_cases ee:j=k
  ·subst ee;exact e
  exact hinv1 j (by omega)
 have e1:firstE c.attrs.length (attrE c.attrs)=0:=Z0c fun j hj=>hinv j (by omega)
 clear hinv hkn h;refine loop_k (ι:=Nat) [1,49] [1] (fun k=>k<=c.commands.length∧(∀j,j<k->cmdE c j=0)) (fun k=>c.commands.length-k) 0 (fun k=>[(50,.pv (vint k))]) (fun _=>[]) [] ⟨qe _,fun j h=>absurd h (by omega)⟩ ?_ (fun k hk=>?_)
 ·exact QD
 obtain⟨hkn,hinv⟩:=hk
 conv=>whnf
 refine⟨fun h=>?_,fun h=>?_⟩<;>(try simp only[Q0,Q1,Q2,Q3,Q4,Q5,Q6,Q7,Q8,reduceCtorEq]at h)<;>(conv=>whnf)
 ·refine .inl ⟨_,Zjd c k hc (by omega),?_⟩
  conv=>whnf
  refine⟨fun h=>?_,fun h=>?_⟩<;>(try simp only[Q0,Q1,Q2,Q3,Q4,Q5,Q6,Q7,Q8,reduceCtorEq]at h)<;>(conv=>whnf)
  ·have e2:=Z06 (n:=c.commands.length) (k:=k) (f:=cmdE c) (by omega) h hinv;exact PSub.int (by simp[checkE,e1,e2,h,hv,hw,-List.getD_eq_getElem?_getD])
  refine .inl ⟨wrap64 (by omega),?_⟩
  conv=>whnf
  refine⟨k+1,[],⟨by omega,?_⟩,by first|omega|(dsimp only;omega),?_⟩;rotate_left
  ·exact QD
  intro j hj
  by_cases e:j=k
  ·subst e;first|exact h|simpa[-List.getD_eq_getElem?_getD]using h|simp_all[-List.getD_eq_getElem?_getD]
  exact hinv j (by omega)
 have e2:firstE c.commands.length (cmdE c)=0:=Z0c fun j hj=>hinv j (by omega)
 have e0:checkE c=firstE c.events.length (evE c.events):=by simp[checkE,e1,e2,hv,hw,-List.getD_eq_getElem?_getD]
 rw[e0];clear hinv hkn h;refine loop_k (ι:=Nat) [1,61,62] [1] (fun k=>k<=c.events.length∧(∀j,j<k->evE c.events j=0)) (fun k=>c.events.length-k) 0 (fun k=>[(63,.pv (vint k))]) (fun _=>[]) [] ⟨qe _,fun j h=>absurd h (by omega)⟩ ?_ (fun k hk=>?_)
 ·exact QD
 obtain⟨hkn,hinv⟩:=hk
 conv=>whnf
 repeat(any_goals((first|refine QB ?_ ?_<;>intro h<;>(try simp only[Q0,Q1,Q2,Q3,Q4,Q5,Q6,Q7,Q8,reduceCtorEq]at h)|refine .inl ⟨_,Z0t (c.events.getD k default),?_⟩|refine .inl ⟨_,Zmi c.events k (c.events.getD k default) (by omega),?_⟩|refine QI ?_|refine QW ?_)<;>conv=>whnf))
 ·have e:evE c.events k=10:=by simp[evE,h,-List.getD_eq_getElem?_getD]
  exact PSub.int (by rw[Z06 (k:=k) (by omega) (by rw[e];decide) hinv,e])
 ·rename_i h';have e:evE c.events k=9:=by simp[evE,h,h',-List.getD_eq_getElem?_getD]
  exact PSub.int (by rw[Z06 (k:=k) (by omega) (by rw[e];decide) hinv,e])
 ·rename_i h';refine⟨k+1,[],⟨by omega,?_⟩,by first|omega|(dsimp only;omega),?_⟩;rotate_left
  ·exact QD
  intro j hj
  by_cases ee:j=k
  ·subst ee;simp[evE,h,h',-List.getD_eq_getElem?_getD]
  exact hinv j (by omega)
 exact PSub.int (by rw[Z0c fun j hj=>hinv j (by omega)])
def smallKs(l:List Clu):Prop:=smallL l∧∀i,smallK (l.getD i default)
def cluE(l:List Clu)(i:Nat):Int:=if checkE (l.getD i default)≠0 then checkE (l.getD i default)else if anyN i (fun j=>decide ((l.getD j default).name=(l.getD i default).name))=true then 9 else 0
def allE(l:List Clu):Int:=if 256<l.length then 3 else firstE l.length (cluE l)
theorem Zj6(l:List Clu)(hl:smallKs l):AC Tryz.prog 80 [.pv (roL 4 cClu l)] [] (.pv (vint (allE l))) []:=by
 have hl1:l.length<=1048576:=hl.1;refine AC.of_awp (T:=T) T_ok hm Tryz.call80 Tryz.func80 rfl rfl rfl ?_
 conv=>whnf
 refine⟨fun h=>?_,fun h=>?_⟩<;>(try simp only[Q0,Q1,Q2,Q3,Q4,Q5,Q6,Q7,Q8,reduceCtorEq]at h)<;>(conv=>whnf)
 ·exact PSub.int (by rw[allE,qK (by omega)])
 rw[allE,qJ (by omega)];clear h;refine loop_k (ι:=Nat) [0,11,12] [] (fun k=>k<=l.length∧(∀j,j<k->cluE l j=0)) (fun k=>l.length-k) 0 (fun k=>[(13,.pv (vint k))]) (fun _=>[]) [] ⟨qe _,fun j h=>absurd h (by omega)⟩ ?_ (fun k hk=>?_)
 ·exact QD
 obtain⟨hkn,hinv⟩:=hk
 conv=>whnf
 repeat(any_goals((first|refine QB ?_ ?_<;>intro h<;>(try simp only[Q0,Q1,Q2,Q3,Q4,Q5,Q6,Q7,Q8,reduceCtorEq]at h)|refine .inl ⟨_,Zbn (l.getD k default) (hl.2 k),?_⟩|refine QI ?_)<;>conv=>whnf))
 ·have e:cluE l k=checkE (l.getD k default):=by simp[cluE,h,-List.getD_eq_getElem?_getD]
  exact PSub.int (by rw[Z06 (k:=k) (by omega) (by rw[e];exact h) hinv,e])
 ·have hd:=h;have hinv1:=hinv;refine loop_k (ι:=Nat) [0,4,11,12,13,25,26] [4] (fun k2=>k2<=k∧(∀j,j<k2->decide ((l.getD j default).name=(l.getD k default).name)=false)) (fun k2=>k-k2) 0 (fun k2=>[(27,.pv (vint k2))]) (fun _=>[]) [] ⟨qe _,fun j h=>absurd h (by omega)⟩ ?_ (fun k2 hk=>?_)
  ·exact QD
  obtain⟨hkn,hinv⟩:=hk
  conv=>whnf
  repeat(any_goals((first|refine QB ?_ ?_<;>intro h<;>(try simp only[Q0,Q1,Q2,Q3,Q4,Q5,Q6,Q7,Q8,reduceCtorEq]at h)|refine QI ?_|refine QW ?_)<;>conv=>whnf))
  ·have e:=Z0a (n:=k) (k:=k2) (p:=fun j=>decide ((l.getD j default).name=(l.getD k default).name)) (by omega) (by simpa[-List.getD_eq_getElem?_getD]using h);have e:cluE l k=9:=by simp[cluE,hd,e,-List.getD_eq_getElem?_getD]
   exact PSub.int (by rw[Z06 (k:=k) (by omega) (by rw[e];decide) hinv1,e])
  ·refine⟨k2+1,[],⟨by omega,?_⟩,by first|omega|(dsimp only;omega),?_⟩;rotate_left
   ·exact QD
   intro j hj
   by_cases e:j=k2
   ·subst e;first|exact h|simpa[-List.getD_eq_getElem?_getD]using h|simp_all[-List.getD_eq_getElem?_getD]
   exact hinv j (by omega)
  have e:=Z0d (n:=k) (p:=fun j=>decide ((l.getD j default).name=(l.getD k default).name)) fun j hj=>hinv j (by omega)
  refine⟨k+1,[],⟨by omega,?_⟩,by first|omega|(dsimp only;omega),?_⟩;rotate_left
  ·exact QD
  intro j hj
  by_cases ee:j=k
  ·subst ee;simp[cluE,hd,e,-List.getD_eq_getElem?_getD]
  exact hinv1 j (by omega)
 exact PSub.int (by rw[Z0c fun j hj=>hinv j (by omega)])
def lastC(l:List Clu):Nat->ByteArray->Option Clu
 |0,_=>none
 |k+1,s=>if(l.getD k default).name=s then some (l.getD k default)else lastC l k s
def cluLook(f:ByteArray->Option Clu):Value->Option PV
 | .string s=>(f s).map fun c=>.agg (cClu c)
 |_=>none
theorem Zbp(H:Hom)(hh:smallL H.clusters):AC Tryz.prog 81 [.pv (.agg (cHom H))] [] (.pv (.map (.one .str) (cluLook (lastC H.clusters H.clusters.length)))) []:=by
 have hl:H.clusters.length<=1048576:=hh;refine AC.of_awp (T:=T) T_ok hm Tryz.call81 Tryz.func81 rfl rfl rfl ?_
 conv=>whnf
 refine loop_k (ι:=Nat) [3,8,9] [] (fun k=>k<=H.clusters.length∧True) (fun k=>H.clusters.length-k) 0 (fun k=>[(10,.pv (vint k))]) (fun k=>[(6,.map (.one .str) (cluLook (lastC H.clusters k)))]) [] ⟨qe _,trivial⟩ ?_ (fun k hk=>?_)
 ·(repeat'(first|exact QC|refine qa ?_ ?_));all_goals(rintro _ ⟨s,rfl⟩;rfl)
 obtain⟨hkn,hinv⟩:=hk
 conv=>whnf
 repeat(any_goals((first|refine QB ?_ ?_<;>intro h<;>(try simp only[Q0,Q1,Q2,Q3,Q4,Q5,Q6,Q7,Q8,reduceCtorEq]at h)|refine QI ?_|refine QW ?_)<;>conv=>whnf))
 ·refine⟨k+1,[],⟨by omega,trivial⟩,by omega,?_⟩;(repeat'(first|exact QC|refine qa ?_ ?_))
  rintro _ ⟨s,rfl⟩
  simp only[Q4,lookPut,cluLook,lastC,Value.string.injEq]
  by_cases e:s=(H.clusters.getD k default).name
  ·simp[e,-List.getD_eq_getElem?_getD];rfl
  rw[qJ e,qJ (fun x=>e x.symm)]
 have e:k=H.clusters.length:=by omega
 subst e;exact PSub.rfl
def numB(d:Dev):Bool:=!(decide (d.id<1)||decide (250<d.id)||decide (d.vendor<0)||decide (255<d.vendor))&&(if d.sleepy then decide (4<=d.poll)&&decide (d.poll<=3600)else decide (d.poll=0))
theorem Zjl(d:Dev):AC Tryz.prog 82 [.pv (.agg (cDev d))] [] (.pv (vbool (numB d))) []:=by
 refine AC.of_awp (T:=T) T_ok hm Tryz.call82 Tryz.func82 rfl rfl rfl ?_
 conv=>whnf
 repeat(any_goals((first|refine QB ?_ ?_<;>intro h<;>(try simp only[Q0,Q1,Q2,Q3,Q4,Q5,Q6,Q7,Q8,reduceCtorEq]at h))<;>conv=>whnf))
 all_goals first|(refine PSub.sb ?_;rw[numB,qt];simp_all;done)|(refine PSub.lit_sb ?_;rw[numB,qt];simp_all;omega)|(refine PSub.lit_sb ?_;rw[numB,qt];simp_all;done)|skip
def firstC(l:List Clu)(s:ByteArray):Option Clu:=l.find? fun c=>decide (c.name=s)
def capStep(f:ByteArray->Option Clu)(d:Dev)(i:Nat)(n:Int):Int ⊕ Int:=
 match f (d.clusters.getD i default)with
 |none=>.inl 8
 |some c=>if idxOf d.clusters (d.clusters.getD i default)<i then .inl 9 else .inr (n+c.attrs.length)
def capE(f:ByteArray->Option Clu)(d:Dev):Int:=
 if d.clusters.length<1∨4<d.clusters.length then 3 else match forI (capStep f d) d.clusters.length 0 0 with
 | .inl e=>e
 | .inr n=>if 24<n then 3 else 0
theorem Zbo(d:Dev)(f:ByteArray->Option Clu)(hf:∀s c,f s=some c->smallK c):AC Tryz.prog 84 [.pv (.agg (cDev d)),.pv (.map (.one .str) (cluLook f))] [] (.pv (vint (capE f d))) []:=by
 refine AC.of_awp (T:=T) T_ok hm Tryz.call84 Tryz.func84 rfl rfl rfl ?_
 conv=>whnf
 refine⟨fun h=>?_,fun h=>?_⟩
 ·conv=>whnf
  simp only[Q0]at h;exact PSub.int (by rw[capE,qK (by omega)])
 conv=>whnf
 refine⟨fun h=>?_,fun h=>?_⟩<;>(try simp only[Q0,Q1,Q2,Q3,Q4,Q5,Q6,Q7,Q8,reduceCtorEq]at h)<;>(conv=>whnf)
 ·exact PSub.int (by rw[capE,qK (by omega)])
 rename_i h0;simp only[Q1]at h0;rw[capE,qJ (by omega)];refine loop_k (ι:=Nat×Int) [1,2,21,22] [2] (fun i=>i.1<=d.clusters.length∧(0<=i.2∧i.2<=i.1*1048576)∧forI (capStep f d) (d.clusters.length-i.1) i.1 i.2=forI (capStep f d) d.clusters.length 0 0) (fun i=>d.clusters.length-i.1) (0,0) (fun i=>[(5,.pv (vint i.2)),(23,.pv (vint i.1))]) (fun _=>[]) [] ⟨qe _,by simp,rfl⟩ ?_ (fun i hk=>?_)
 ·exact QD
 obtain⟨k,n⟩:=i;obtain⟨hkn,hn,hfor⟩:=hk;simp only at hkn hn hfor
 conv=>whnf
 refine⟨fun h=>?_,fun h=>?_⟩<;>(try simp only[Q0,Q1,Q2,Q3,Q4,Q5,Q6,Q7,Q8,reduceCtorEq]at h)<;>(conv=>whnf)
 ·refine qa (by omega) ?_
  conv=>whnf
  refine⟨fun p hp=>?_,fun hp=>?_⟩
  ·simp only[cluLook,Q4]at hp;cases hf0:f (d.clusters.getD k default)with
   |none=>rw[hf0]at hp;cases hp
   |some c=>
    rw[hf0]at hp;cases hp;have hcl:c.attrs.length<=1048576:=(hf _ _ hf0).1
    conv=>whnf
    repeat(any_goals((first|refine QB ?_ ?_<;>intro h<;>(try simp only[Q0,Q1,Q2,Q3,Q4,Q5,Q6,Q7,Q8,reduceCtorEq]at h)|refine .inl ⟨_,Z86 d.clusters (d.clusters.getD k default) (by omega),?_⟩|refine QW ?_)<;>conv=>whnf))
    ·rw[Z71 hfor (by omega) (r:=9) (by rw[capStep,hf0];simp only;rw[qK h])];exact PSub.rfl
    refine⟨(k+1,n+c.attrs.length),[],⟨by dsimp only;omega,⟨by dsimp only;omega,by dsimp only;omega⟩,Zeh hfor (by omega) (by rw[capStep,hf0];simp only;rw[if_neg h])⟩,by dsimp only;omega,?_⟩
    all_goals exact QD
  simp only[cluLook,Q4]at hp;have hf0:f (d.clusters.getD k default)=none:=by simpa using hp
  conv=>whnf
  repeat(any_goals((first|refine QB ?_ ?_<;>intro h<;>(try simp only[Q0,Q1,Q2,Q3,Q4,Q5,Q6,Q7,Q8,reduceCtorEq]at h))<;>conv=>whnf))
  rw[Z71 hfor (by omega) (r:=8) (by rw[capStep,hf0])];exact PSub.rfl
 rw[Zeg hfor (by omega)]
 repeat(any_goals((first|refine QB ?_ ?_<;>intro h<;>(try simp only[Q0,Q1,Q2,Q3,Q4,Q5,Q6,Q7,Q8,reduceCtorEq]at h))<;>conv=>whnf))
 ·exact PSub.int (by simp only;rw[qK h])
 exact PSub.int (by simp only;rw[qJ h])
def devE(f:ByteArray->Option Clu)(l:List Dev)(i:Nat):Int:=
 if numB (l.getD i default)=false then 2 else if 0<i∧(l.getD i default).id<=(l.getD (i-1) default).id then 14
 else if anyN i (fun j=>decide ((l.getD j default).eui=(l.getD i default).eui))=true then 9 else if validName (l.getD i default).room=false then 10
 else capE f (l.getD i default)
def homE(H:Hom):Int:=if allE H.clusters≠0 then allE H.clusters else if 20<H.devices.length then 3 else firstE H.devices.length (devE (firstC H.clusters) H.devices)
theorem Zoo{l:List Clu}{k:Nat}(h:∀i,i<k->cluE l i=0){i j:Nat}(hi:i<j)(hj:j<k):(l.getD i default).name≠(l.getD j default).name:=by
 intro e;have:=h j hj;unfold cluE at this
 split at this
 ·contradiction
 rw[qK (Z0a hi (by simpa[-List.getD_eq_getElem?_getD]using e))]at this;cases this
theorem Z1d{n:Nat}{f:Nat->Int}(h:firstE n f=0):∀i,i<n->f i=0:=by
 intro i hi;unfold firstE at h
 split at h
 ·rename_i j e;rw[List.find?_range_eq_some]at e;exact absurd h (by simpa using e.1)
 rename_i e;rw[List.find?_eq_none]at e;simpa using e i (by simpa using hi)
theorem Zfr{l:List Clu}(h:∀i,i<l.length->cluE l i=0)(s:ByteArray):lastC l l.length s=firstC l s:=by
 have hnone:∀k,k<=l.length->(∀i,i<k->(l.getD i default).name≠s)->lastC l k s=none:=by
  intro k
  induction k with
  |zero=>intro _ _;rfl
  |succ k ih=>intro hk hn;rw[lastC,qJ (hn k (by omega)),ih (by omega) fun i hi=>hn i (by omega)]
 have hsome:∀k,k<=l.length->∀i,i<k->(l.getD i default).name=s->lastC l k s=some (l.getD i default):=by
  intro k
  induction k with
  |zero=>intro _ i hi;omega
  |succ k ih=>
   intro hk i hi e;rw[lastC]
   by_cases e2:i=k
   ·subst e2;rw[qK e]
   rw[qJ fun e3=>Zoo (k:=l.length) h (i:=i) (j:=k) (by omega) (by omega) (e.trans e3.symm)];exact ih (by omega) i (by omega) e
 unfold firstC;cases hf:l.find? fun c=>decide (c.name=s)with
 |none=>
  rw[List.find?_eq_none]at hf;refine hnone _ (qL _) fun i hi=>?_
  have:=hf l[i] (qE hi);simpa[List.getD,hi]using this
 |some c=>
  obtain⟨h1,xs,ys,h2,h3⟩:=List.find?_eq_some_iff_append.1 hf;have hi:xs.length<l.length:=by rw[h2];simp
  have e:l.getD xs.length default=c:=by simp[h2]
  rw[<-e];exact hsome _ (qL _) _ hi (by rw[e];simpa using h1)
theorem Z3d{l:List Clu}(hl:smallKs l){s:ByteArray}{c:Clu}(h:firstC l s=some c):smallK c:=by
 have:=List.mem_of_find?_eq_some h;obtain⟨i,hi,rfl⟩:=qp this;have:=hl.2 i;simpa[List.getD,hi]using this
def smallD(d:Dev):Prop:=smallL d.clusters∧-9223372036854775808<=d.id∧d.id<=9223372036854775807
def smallH(H:Hom):Prop:=smallKs H.clusters∧smallL H.devices∧∀i,smallD (H.devices.getD i default)
def euiLook(l:List Dev)(k:Nat):Value->Option PV
 | .int .u64 n=>if anyN k (fun j=>decide ((l.getD j default).eui=n))=true then some (.val (.bool true))else none
 |_=>none
theorem Zny{n:Nat}{p:Nat->Bool}:anyN (n+1) p=(anyN n p||p n):=by simp[anyN,List.range_succ]
theorem Zdz(l:List Dev)(k:Nat)(s:Int):lookPut (euiLook l k) (.int .u64 (l.getD k default).eui) (.val (.bool true)) (.int .u64 s)=euiLook l (k+1) (.int .u64 s):=by
 simp only[lookPut,euiLook,Zny,Value.int.injEq,true_and]
 by_cases e:s=(l.getD k default).eui
 ·rw[qK e,qK (by simp[e,-List.getD_eq_getElem?_getD])]
 rw[qJ e];have e2:decide ((l.getD k default).eui=s)=false:=by simpa[-List.getD_eq_getElem?_getD]using fun x=>e x.symm
 rw[e2,Bool.or_false]
theorem Z69(H:Hom)(hH:smallH H):AC Tryz.prog 49 [.pv (.agg (cHom H))] [] (.pv (vint (homE H))) []:=by
 have hl:H.devices.length<=1048576:=hH.2.1;refine AC.of_awp (T:=T) T_ok hm Tryz.call49 Tryz.func49 rfl rfl rfl ?_
 conv=>whnf
 refine .inl ⟨_,Zj6 H.clusters hH.1,?_⟩
 conv=>whnf
 refine⟨fun h=>?_,fun h=>?_⟩<;>(try simp only[Q0,Q1,Q2,Q3,Q4,Q5,Q6,Q7,Q8,reduceCtorEq]at h)<;>(conv=>whnf)
 ·exact PSub.int (by rw[homE,qK h])
 rw[homE,qJ (by simpa using h)];have ha:=h;refine⟨fun h=>?_,fun h=>?_⟩<;>(try simp only[Q0,Q1,Q2,Q3,Q4,Q5,Q6,Q7,Q8,reduceCtorEq]at h)<;>(conv=>whnf)
 ·exact PSub.int (by rw[qK (by omega)])
 rw[qJ (by omega)];refine .inl ⟨_,Zbp H hH.1.1,?_⟩
 conv=>whnf
 clear h;have hu:∀i,i<H.clusters.length->cluE H.clusters i=0:=Z1d (by
  unfold allE at ha
  split at ha
  ·cases ha
  ·exact ha)
 have hm:PSub (.map (.one .str) (cluLook (lastC H.clusters H.clusters.length))) (.map (.one .str) (cluLook (firstC H.clusters))):=PSub.map (by
  rintro _ ⟨s,rfl⟩
  simp only[cluLook,Zfr hu])
 refine loop_k (ι:=Nat) [1,4,5,23,24] [1] (fun k=>k<=H.devices.length∧(∀j,j<k->devE (firstC H.clusters) H.devices j=0)) (fun k=>H.devices.length-k) 0 (fun k=>[(25,.pv (vint k))]) (fun k=>[(21,.map (.one (.int .u64)) (euiLook H.devices k))]) [] ⟨qe _,fun j h=>absurd h (by omega)⟩ ?_ (fun k hk=>?_)
 ·(repeat'(first|exact QC|refine qa ?_ ?_));all_goals(rintro _ ⟨s,rfl⟩;rfl)
 obtain⟨hkn,hinv⟩:=hk
 conv=>whnf
 repeat(any_goals((first|refine QB ?_ ?_<;>intro h<;>(try simp only[Q0,Q1,Q2,Q3,Q4,Q5,Q6,Q7,Q8,reduceCtorEq]at h)|refine .inl ⟨_,Zjl (H.devices.getD k default),?_⟩|refine QI ?_|refine QK ?_|refine QW ?_)<;>conv=>whnf))
 ·have e:devE (firstC H.clusters) H.devices k=2:=by simp[devE,h,-List.getD_eq_getElem?_getD]
  exact PSub.int (by rw[Z06 (k:=k) (by omega) (by rw[e];decide) hinv,e])
 ·rename_i h0 h1;rw[show(↑k-1:Int).toNat=k-1 from by omega]at h;have e:devE (firstC H.clusters) H.devices k=14:=by simp[devE,h0,h,-List.getD_eq_getElem?_getD];omega
  exact PSub.int (by rw[Z06 (k:=k) (by omega) (by rw[e];decide) hinv,e])
 ·rw[show(↑k-1:Int).toNat=k-1 from by omega]at h;refine⟨fun p=>?_,fun h=>?_⟩
  ·intro hp;rename_i h0 h1;have hnum:numB (H.devices.getD k default)=true:=by assumption
   rw[Q4]at hp;simp only[euiLook]at hp
   split at hp
   ·rename_i hany;cases hp
    conv=>whnf
    have e:devE (firstC H.clusters) H.devices k=9:=by simp[devE,hnum,h0,h1,hany,-List.getD_eq_getElem?_getD];try omega
    exact PSub.int (by rw[Z06 (k:=k) (by omega) (by rw[e];decide) hinv,e])
   ·cases hp
  ·rw[Q4]at h
   conv=>whnf
   have hany:anyN k (fun j=>decide ((H.devices.getD j default).eui=(H.devices.getD k default).eui))=false:=by
    simp only[euiLook]at h
    split at h
    ·cases h
    ·rename_i hx;simpa using hx
   rename_i h0 h1;have hnum:numB (H.devices.getD k default)=true:=by assumption
   repeat(any_goals((first|refine QB ?_ ?_<;>intro h<;>(try simp only[Q0,Q1,Q2,Q3,Q4,Q5,Q6,Q7,Q8,reduceCtorEq]at h)|refine .inl ⟨_,Z0t (H.devices.getD k default).room,?_⟩|refine .inl ⟨_,AC.sub2 (Zbo (H.devices.getD k default) (firstC H.clusters) (fun _ _=>Z3d hH.1)) .rfl hm,?_⟩|refine QW ?_)<;>conv=>whnf))
   ·have e:devE (firstC H.clusters) H.devices k=10:=by simp[devE,hnum,h0,h1,hany,h,-List.getD_eq_getElem?_getD];try omega
    exact PSub.int (by rw[Z06 (k:=k) (by omega) (by rw[e];decide) hinv,e])
   ·rename_i h2;have e:devE (firstC H.clusters) H.devices k=capE (firstC H.clusters) (H.devices.getD k default):=by simp[devE,hnum,h0,h1,hany,h2,-List.getD_eq_getElem?_getD];try omega
    exact PSub.int (by rw[Z06 (k:=k) (by omega) (by rw[e];exact h) hinv,e])
   ·rename_i h2;have e:devE (firstC H.clusters) H.devices k=0:=by simp[devE,hnum,h0,h1,hany,h2,h,-List.getD_eq_getElem?_getD];try omega
    refine⟨k+1,[],⟨by omega,?_⟩,by omega,?_⟩
    ·intro j hj
     by_cases ee:j=k
     ·subst ee;exact e
     ·exact hinv j (by omega)
    ·(repeat'(first|exact QC|refine qa ?_ ?_))
     rintro _ ⟨s,rfl⟩
     exact Zdz H.devices k s
 ·refine⟨fun p=>?_,fun h=>?_⟩
  ·intro hp;rename_i h0 h1;have hnum:numB (H.devices.getD k default)=true:=by assumption
   rw[Q4]at hp;simp only[euiLook]at hp
   split at hp
   ·rename_i hany;cases hp
    conv=>whnf
    have e:devE (firstC H.clusters) H.devices k=9:=by simp[devE,hnum,h0,h1,hany,-List.getD_eq_getElem?_getD];try omega
    exact PSub.int (by rw[Z06 (k:=k) (by omega) (by rw[e];decide) hinv,e])
   ·cases hp
  ·rw[Q4]at h
   conv=>whnf
   have hany:anyN k (fun j=>decide ((H.devices.getD j default).eui=(H.devices.getD k default).eui))=false:=by
    simp only[euiLook]at h
    split at h
    ·cases h
    ·rename_i hx;simpa using hx
   rename_i h0 h1;have hnum:numB (H.devices.getD k default)=true:=by assumption
   repeat(any_goals((first|refine QB ?_ ?_<;>intro h<;>(try simp only[Q0,Q1,Q2,Q3,Q4,Q5,Q6,Q7,Q8,reduceCtorEq]at h)|refine .inl ⟨_,Z0t (H.devices.getD k default).room,?_⟩|refine .inl ⟨_,AC.sub2 (Zbo (H.devices.getD k default) (firstC H.clusters) (fun _ _=>Z3d hH.1)) .rfl hm,?_⟩|refine QW ?_)<;>conv=>whnf))
   ·have e:devE (firstC H.clusters) H.devices k=10:=by simp[devE,hnum,h0,h1,hany,h,-List.getD_eq_getElem?_getD];try omega
    exact PSub.int (by rw[Z06 (k:=k) (by omega) (by rw[e];decide) hinv,e])
   ·rename_i h2;have e:devE (firstC H.clusters) H.devices k=capE (firstC H.clusters) (H.devices.getD k default):=by simp[devE,hnum,h0,h1,hany,h2,-List.getD_eq_getElem?_getD];try omega
    exact PSub.int (by rw[Z06 (k:=k) (by omega) (by rw[e];exact h) hinv,e])
   ·rename_i h2;have e:devE (firstC H.clusters) H.devices k=0:=by simp[devE,hnum,h0,h1,hany,h2,h,-List.getD_eq_getElem?_getD];try omega
    refine⟨k+1,[],⟨by omega,?_⟩,by omega,?_⟩
    ·intro j hj
     by_cases ee:j=k
     ·subst ee;exact e
     ·exact hinv j (by omega)
    ·(repeat'(first|exact QC|refine qa ?_ ?_))
     rintro _ ⟨s,rfl⟩
     exact Zdz H.devices k s
 ·exact PSub.int (by rw[Z0c fun j hj=>hinv j (by omega)])
def cluAt(l:List Clu)(s:ByteArray):Nat:=firstI l.length fun i=>decide ((l.getD i default).name=s)
theorem Z9i(l:List Clu)(s:ByteArray):firstC l s=if cluAt l s<l.length then some (l.getD (cluAt l s) default)else none:=by
 unfold firstC cluAt;cases hf:l.find? fun c=>decide (c.name=s)with
 |none=>
  rw[List.find?_eq_none]at hf;rw[Z0z fun i hi=>?_,qJ (qM _)];have:=hf l[i] (qE hi);simpa[List.getD,hi]using this
 |some c=>
  obtain⟨h1,xs,ys,h2,h3⟩:=List.find?_eq_some_iff_append.1 hf;have hi:xs.length<l.length:=by rw[h2];simp
  have e:l.getD xs.length default=c:=by simp[h2]
  have ef:firstI l.length (fun i=>decide ((l.getD i default).name=s))=xs.length:=by
   refine Z0u hi (by rw[e];exact h1) fun j hj=>?_
   have:=h3 xs[j] (qE hj);simpa[h2,qr hj,hj]using this
  rw[ef,qK hi,e]
def devAt(l:List Dev)(id:Int):Nat:=firstI l.length fun i=>decide ((l.getD i default).id=id)
def keyLess(a b:Key):Bool:=if a.dev≠b.dev then decide (a.dev<b.dev)else if a.cluster≠b.cluster then Op.bytesLess a.cluster.toList b.cluster.toList else Op.bytesLess a.attr.toList b.attr.toList
theorem Z3z(a b:Key):AC Tryz.prog 56 [.pv (.agg (cKey a)),.pv (.agg (cKey b))] [] (.pv (vbool (keyLess a b))) []:=by
 refine AC.of_awp (T:=T) T_ok hm Tryz.call56 Tryz.func56 rfl rfl rfl ?_
 conv=>whnf
 repeat(any_goals((first|refine QB ?_ ?_<;>intro h<;>(try simp only[Q0,Q1,Q2,Q3,Q4,Q5,Q6,Q7,Q8,reduceCtorEq]at h))<;>conv=>whnf))
 all_goals(try simp only[Q0,Q1,Q2,Q3,Q4,Q5,Q6,Q7,Q8,reduceCtorEq]at *)
 all_goals first
  |contradiction
  |(exfalso;omega)
  |exact PSub.rfl
  |(refine PSub.int ?_;simp only[keyLess];(repeat' split)<;>first|rfl|omega|(simp_all[-List.getD_eq_getElem?_getD];done)|(simp_all[-List.getD_eq_getElem?_getD];omega))
  |(refine PSub.sb ?_;simp_all[keyLess,-List.getD_eq_getElem?_getD];done)
  |(refine PSub.lit_sb ?_;simp_all[keyLess,-List.getD_eq_getElem?_getD];done)
  |(refine PSub.sb_lit ?_;simp_all[keyLess,-List.getD_eq_getElem?_getD];done)
  |(refine PSub.sb ?_;rw[qt];simp_all[keyLess,-List.getD_eq_getElem?_getD];done)
  |(refine PSub.lit_sb ?_;rw[qt];simp_all[keyLess,-List.getD_eq_getElem?_getD];done)
  |(refine PSub.sb_lit ?_;rw[qt];simp_all[keyLess,-List.getD_eq_getElem?_getD];done)
  |skip
def noDev:Dev:=⟨0,0,0,false,0,⟨#[]⟩,[]⟩
def findB(H:Hom)(id:Int):Bool:=decide (homE H=0)&&decide (devAt H.devices id<H.devices.length)
def findD(H:Hom)(id:Int):Dev:=if findB H id=true then H.devices.getD (devAt H.devices id) default else noDev
theorem Zga:PSub (.agg [vint 0,.val (.int .u64 0),vint 0,.val (.bool false),vint 0,vstr ⟨#[]⟩,.val (.slice none 0 0)]) (.agg (cDev noDev)):=PSub.agg ⟨.rfl,.rfl,.rfl,PSub.lit_sb rfl,.rfl,.rfl,PSub.nil_ro _ _,trivial⟩
theorem Zji(H:Hom)(id:Int)(hH:smallH H):AC Tryz.prog 193 [.pv (.agg (cHom H)),.pv (vint id)] [] (.pv (.tup [.agg (cDev (findD H id)),vbool (findB H id)])) []:=by
 have hl:H.devices.length<=1048576:=hH.2.1;refine AC.of_awp (T:=T) T_ok hm Tryz.call193 Tryz.func193 rfl rfl rfl ?_
 conv=>whnf
 refine .inl ⟨_,Z69 H hH,?_⟩
 conv=>whnf
 refine⟨fun h=>?_,fun h=>?_⟩<;>(try simp only[Q0,Q1,Q2,Q3,Q4,Q5,Q6,Q7,Q8,reduceCtorEq]at h)<;>(conv=>whnf)
 ·have e:findB H id=false:=by simp[findB,h]
  rw[findD,e];refine⟨?_,?_⟩<;>(conv=>whnf)
  ·exact Zga
  exact PSub.lit_sb rfl
 have h0:=h;refine loop_k (ι:=Nat) [1,4,13,14] [4] (fun k=>k<=H.devices.length∧(∀j,j<k->decide ((H.devices.getD j default).id=id)=false)) (fun k=>H.devices.length-k) 0 (fun k=>[(15,.pv (vint k))]) (fun _=>[]) [] ⟨qe _,fun j h=>absurd h (by omega)⟩ ?_ (fun k hk=>?_)
 ·exact QD
 obtain⟨hkn,hinv⟩:=hk
 conv=>whnf
 repeat(any_goals((first|refine QB ?_ ?_<;>intro h<;>(try simp only[Q0,Q1,Q2,Q3,Q4,Q5,Q6,Q7,Q8,reduceCtorEq]at h)|refine QI ?_|refine QW ?_)<;>conv=>whnf))
 ·have e:devAt H.devices id=k:=Z0u (by omega) (by simpa[-List.getD_eq_getElem?_getD]using h) hinv;have e2:findB H id=true:=by simp[findB,h0,e];omega
  rw[findD,e2,e,qK rfl];refine⟨?_,?_⟩<;>(conv=>whnf)
  ·exact .rfl
  exact PSub.lit_sb rfl
 ·refine⟨k+1,[],⟨by omega,?_⟩,by first|omega|(dsimp only;omega),?_⟩;rotate_left
  ·exact QD
  intro j hj
  by_cases e:j=k
  ·subst e;first|exact h|simpa[-List.getD_eq_getElem?_getD]using h|simp_all[-List.getD_eq_getElem?_getD]
  exact hinv j (by omega)
 have e:devAt H.devices id=H.devices.length:=Z0z fun j hj=>hinv j (by omega)
 have e2:findB H id=false:=by simp[findB,e]
 rw[findD,e2];refine⟨?_,?_⟩<;>(conv=>whnf)
 ·exact Zga
 exact PSub.lit_sb rfl
def attrsOf(o:Option Clu):List Attr:=match o with|some c=>c.attrs|none=>[]
def keysOf1(f:ByteArray->Option Clu)(id:Int)(s:ByteArray):List Key:=(attrsOf (f s)).map fun a=>⟨id,s,a.name⟩
def keysL(H:Hom)(id:Int):List Key:=(findD H id).clusters.flatMap (keysOf1 (firstC H.clusters) id)
theorem Z8s{l:List Clu}(ha:allE l=0):∀i,i<l.length->cluE l i=0:=Z1d (by
  unfold allE at ha
  split at ha
  ·cases ha
  ·exact ha)
theorem Z9x{H:Hom}(h:homE H=0):allE H.clusters=0:=by
 unfold homE at h
 split at h
 ·contradiction
 omega
theorem Zoj{f:ByteArray->Option Clu}{d:Dev}(h:capE f d=0):1<=d.clusters.length∧d.clusters.length<=4:=by
 unfold capE at h
 split at h
 ·cases h
 omega
theorem Zes{H:Hom}(h:homE H=0){i:Nat}(hi:i<H.devices.length):devE (firstC H.clusters) H.devices i=0:=by
 unfold homE at h
 split at h
 ·contradiction
 split at h
 ·cases h
 exact Z1d h i hi
theorem Zp8{f:ByteArray->Option Clu}{l:List Dev}{i:Nat}(h:devE f l i=0):capE f (l.getD i default)=0:=by
 unfold devE at h
 split at h
 ·cases h
 split at h
 ·cases h
 split at h
 ·cases h
 split at h
 ·cases h
 exact h
theorem Z9h{H:Hom}{id:Int}(h:findB H id=true):capE (firstC H.clusters) (findD H id)=0:=by
 rw[findD,qK h];simp only[findB,qc,Q0]at h;exact Zp8 (Zes h.1 h.2)
theorem Ze5{H:Hom}{id:Int}(h:findB H id=false):findD H id=noDev:=by rw[findD,h];rfl
theorem Z6v{H:Hom}{id:Int}:(findD H id).clusters.length<=4:=by
 cases h:findB H id with
 |true=>exact(Zoj (Z9h h)).2
 |false=>rw[Ze5 h];decide
theorem Zrj{f:ByteArray->Option Clu}(s:ByteArray):(∃c,f s=some c∧cluLook f (.string s)=some (.agg (cClu c)))∨(f s=none∧cluLook f (.string s)=none):=by
 simp only[cluLook];cases f s with
 |none=>exact .inr ⟨rfl,rfl⟩
 |some c=>exact .inl ⟨c,rfl,rfl⟩
theorem Zei{ρ σ:Type}{f:Nat->σ->ρ ⊕ σ}:∀(n k:Nat) (s s':σ),forI f n k s = .inr s'->∀i,k<=i->i<k+n->∃t t',f i t = .inr t'
 |0,k,s,s',_,i,h1,h2=>by omega
 |n+1,k,s,s',e,i,h1,h2=>by
  simp only[forI]at e;cases hf:f k s with
  |inl r=>rw[hf]at e;cases e
  |inr t=>
   rw[hf]at e
   by_cases hi:i=k
   ·subst hi;exact⟨s,t,hf⟩
   exact Zei n (k+1) t s' e i (by omega) (by omega)
theorem Zdg{f:ByteArray->Option Clu}{d:Dev}(h:capE f d=0){i:Nat}(hi:i<d.clusters.length):∃c,f (d.clusters.getD i default)=some c:=by
 unfold capE at h
 split at h
 ·cases h
 split at h
 ·rename_i e he;subst h;exfalso;have key:∀n k s,forI (capStep f d) n k s≠.inl 0:=by
   intro n
   induction n with
   |zero=>intro k s e;cases e
   |succ n ih=>
    intro k s e;simp only[forI]at e;cases hf:capStep f d k s with
    |inr t=>rw[hf]at e;exact ih _ _ e
    |inl r=>
     rw[hf]at e;cases e;unfold capStep at hf
     split at hf
     ·cases hf
     split at hf<;>cases hf
  exact key _ _ _ he
 rename_i m he;obtain⟨t,t',e⟩:=Zei _ _ _ _ he i (qe _) (by omega);unfold capStep at e
 split at e
 ·cases e
 rename_i c hc;exact⟨c,hc⟩
theorem Zev{l:List ByteArray}{s:ByteArray}(h:0<=idxOf l s):∃i,i<l.length∧l.getD i default=s:=by
 unfold idxOf at h
 split at h
 ·rename_i i e;rw[List.findIdx?_eq_some_iff_getElem]at e;obtain⟨hi,he,_⟩:=e;exact⟨i,hi,by simpa[List.getD,hi]using he⟩
 omega
def noClu:Clu:=⟨⟨#[]⟩,[],[],[]⟩
def partO(H:Hom)(id:Int)(s:ByteArray):Option Clu:=if findB H id=true∧0<=idxOf (findD H id).clusters s then firstC H.clusters s else none
def attrO(o:Option Clu)(s:ByteArray):Option Attr:=match o with
 |some c=>if attrAt c.attrs s<c.attrs.length then some (c.attrs.getD (attrAt c.attrs s) default)else none
 |none=>none
def findA(H:Hom)(k:Key):Option Attr:=attrO (partO H k.dev k.cluster) k.attr
theorem Z5p:PSub (.agg zAttr) (.agg (cAttr noAttr)):=PSub.agg Zg9
theorem Z4n:PSub (.agg [vstr ⟨#[]⟩,.val (.slice none 0 0),.val (.slice none 0 0),.val (.slice none 0 0)]) (.agg (cClu noClu)):=PSub.agg ⟨.rfl,PSub.nil_ro _ _,PSub.nil_ro _ _,PSub.nil_ro _ _,trivial⟩
theorem Z7r:smallK noClu:=⟨qe _,fun _=>qe _,qe _,fun _=>⟨qe _,qe _⟩,qe _⟩
theorem Z4z(H:Hom)(k:Key)(hH:smallH H):AC Tryz.prog 133 [.pv (.agg (cHom H)),.pv (.agg (cKey k))] [] (.pv (.tup [.agg (cAttr ((findA H k).getD noAttr)),vbool (findA H k).isSome])) []:=by
 have hl:H.clusters.length<=1048576:=hH.1.1;have hd4:=@Z6v H k.dev;refine AC.of_awp (T:=T) T_ok hm Tryz.call133 Tryz.func133 rfl rfl rfl ?_
 conv=>whnf
 refine .inl ⟨_,Zji H k.dev hH,?_⟩
 conv=>whnf
 repeat(any_goals((first|refine QB ?_ ?_<;>intro h<;>(try simp only[Q0,Q1,Q2,Q3,Q4,Q5,Q6,Q7,Q8,reduceCtorEq]at h)|refine .inl ⟨_,Z86 (findD H k.dev).clusters k.cluster (by omega),?_⟩|refine .inl ⟨_,Zbp H hl,?_⟩|refine QK ?_)<;>conv=>whnf))
 ·have e:findA H k=none:=by simp[findA,partO,h,attrO]
  rw[e];refine⟨?_,?_⟩<;>(conv=>whnf)
  ·exact Z5p
  exact PSub.lit_sb rfl
 ·have e:findA H k=none:=by rw[findA,partO,qJ (by omega)];rfl
  rw[e];refine⟨?_,?_⟩<;>(conv=>whnf)
  ·exact Z5p
  exact PSub.lit_sb rfl
 rename_i hb;have hpart:partO H k.dev k.cluster=firstC H.clusters k.cluster:=by rw[partO,qK ⟨hb,by omega⟩]
 have hv:homE H=0:=by simp only[findB,qc,Q0]at hb;exact hb.1
 have hla:=Zfr (Z8s (Z9x hv)) k.cluster;rw[show cluLook (lastC H.clusters H.clusters.length) (.string k.cluster)=cluLook (firstC H.clusters) (.string k.cluster)from by simp only[cluLook,hla]];rcases Zrj (f:=firstC H.clusters) k.cluster with⟨c,h1,h2⟩|⟨h1,h2⟩
 ·rw[h2];refine⟨fun p hp=>?_,fun hp=>by cases hp⟩;cases hp
  conv=>whnf
  repeat(any_goals((first|refine QB ?_ ?_<;>intro h<;>(try simp only[Q0,Q1,Q2,Q3,Q4,Q5,Q6,Q7,Q8,reduceCtorEq]at h)|refine .inl ⟨_,Z83 c k.attr (Z3d hH.1 h1),?_⟩|refine QK ?_)<;>conv=>whnf))
  ·have e:findA H k=none:=by rw[findA,hpart,h1,attrO];rw[qJ h]
   rw[e];refine⟨?_,?_⟩<;>(conv=>whnf)
   ·exact Z5p
   exact PSub.lit_sb rfl
  have e:findA H k=some (attrOf c.attrs k.attr):=by rw[findA,hpart,h1,attrO,attrOf];rw[qK h,qK h]
  rw[e];refine⟨?_,?_⟩<;>(conv=>whnf)
  ·exact .rfl
  exact PSub.lit_sb rfl
 rw[h2];refine⟨fun p hp=>(by cases hp),fun hp=>?_⟩
 conv=>whnf
 repeat(any_goals((first|refine QB ?_ ?_<;>intro h<;>(try simp only[Q0,Q1,Q2,Q3,Q4,Q5,Q6,Q7,Q8,reduceCtorEq]at h)|refine .inl ⟨_,AC.sub2 (Z83 noClu k.attr Z7r) Z4n .rfl,?_⟩|refine QK ?_)<;>conv=>whnf))
 ·have e:findA H k=none:=by rw[findA,hpart,h1,attrO]
  rw[e];refine⟨?_,?_⟩<;>(conv=>whnf)
  ·exact Z5p
  exact PSub.lit_sb rfl
 exact absurd h (by simp[noClu])
theorem Zb7{H:Hom}{id:Int}{s:ByteArray}(hH:smallH H):smallK ((partO H id s).getD noClu):=by
 unfold partO;split
 ·cases h:firstC H.clusters s with
  |none=>exact Z7r
  |some c=>exact Z3d hH.1 h
 exact Z7r
def ixI(n k:Nat):Int:=if k<n then(k:Int)else -1
theorem Zmk(l:List Item)(gb:List PV->Bool)(gi:List PV->Int)(hl:smallL l):AC Tryz.prog 298 [.pv (roL 7 cItem l),.clo (fun xs=>∃x:Item,xs = [.agg (cItem x)]) true gb gi] [] (.pv (vint (ixI l.length (firstI l.length fun i=>gb [.agg (cItem (l.getD i default))])))) []:=by
 have hl:l.length<=1048576:=hl;refine AC.of_awp (T:=T) T_ok hm Tryz.call298 Tryz.func298 rfl rfl rfl ?_
 conv=>whnf
 refine loop_k (ι:=Nat) [0,1,7] [] (fun k=>k<=l.length∧(∀j,j<k->gb [.agg (cItem (l.getD j default))]=false)) (fun k=>l.length-k) 0 (fun k=>[(8,.pv (vint k))]) (fun _=>[]) [] ⟨qe _,fun j h=>absurd h (by omega)⟩ ?_ (fun k hk=>?_)
 ·exact QD
 obtain⟨hkn,hinv⟩:=hk
 conv=>whnf
 repeat(any_goals((first|refine QB ?_ ?_<;>intro h<;>(try simp only[Q0,Q1,Q2,Q3,Q4,Q5,Q6,Q7,Q8,reduceCtorEq]at h)|refine QI ?_)<;>conv=>whnf))
 refine qa ⟨l.getD k default,rfl⟩ ?_
 conv=>whnf
 repeat(any_goals((first|refine QB ?_ ?_<;>intro h<;>(try simp only[Q0,Q1,Q2,Q3,Q4,Q5,Q6,Q7,Q8,reduceCtorEq]at h)|refine QW ?_)<;>conv=>whnf))
 ·have e:firstI l.length (fun i=>gb [.agg (cItem (l.getD i default))])=k:=Z0u (by omega) h hinv;exact PSub.int (by rw[e,ixI,qK (by omega)])
 ·refine⟨k+1,[],⟨by omega,?_⟩,by first|omega|(dsimp only;omega),?_⟩;rotate_left
  ·exact QD
  intro j hj
  by_cases e:j=k
  ·subst e;first|exact h|simpa[-List.getD_eq_getElem?_getD]using h|simp_all[-List.getD_eq_getElem?_getD]
  exact hinv j (by omega)
 have e:firstI l.length (fun i=>gb [.agg (cItem (l.getD i default))])=l.length:=Z0z fun j hj=>hinv j (by omega)
 exact PSub.int (by rw[e,ixI,qJ (by omega)])
def keyB(k:Key):List PV->Bool
 | [.agg (.val (.int .i64 d) :: .val (.string c) :: .val (.string a)::_)]=>decide ((⟨d,c,a⟩:Key)=k)
 |_=>false
theorem Zjk(x:Item)(k:Key):AC Tryz.prog 299 [.pv (.agg (cItem x)),.pv (.cell (cKey k))] [] (.pv (vbool (decide (x.key=k)))) []:=by
 refine AC.of_awp (T:=T) T_ok hm Tryz.call299 Tryz.func299 rfl rfl rfl ?_
 conv=>whnf
 skip
 refine PSub.sb ?_;obtain⟨⟨a,b,c⟩,v,n⟩:=x;obtain⟨d,e,f⟩:=k;rw[qt];simp
def itemAt(l:List Item)(k:Key):Nat:=firstI l.length fun i=>decide ((l.getD i default).key=k)
theorem Zml(l:List Item)(k:Key)(hl:smallL l):AC Tryz.prog 298 [.pv (roL 7 cItem l),.fn 299 [.pv (.cell (cKey k))]] [] (.pv (vint (ixI l.length (itemAt l k)))) []:=by
 refine AC.with_fn (pre:=[.pv (roL 7 cItem l)]) (post:=[]) (Zmk l (keyB k) (fun _=>0) hl) Tryz.call299 rfl rfl rfl ?_
 rintro xs ⟨x,rfl⟩
 exact Zjk x k
theorem Zjj(l:List Item)(k:Key)(hl:smallL l):AC Tryz.prog 294 [.pv (roL 7 cItem l),.pv (.agg (cKey k))] [] (.pv (vint (ixI l.length (itemAt l k)))) []:=by
 refine AC.of_awp (T:=T) T_ok hm Tryz.call294 Tryz.func294 rfl rfl rfl ?_
 conv=>whnf
 refine .inl ⟨_,Zml l k hl,?_⟩
 conv=>whnf
 exact .rfl
def noItem:Item:=⟨⟨0,⟨#[]⟩,⟨#[]⟩⟩,noVal,0⟩
def getI(l:List Item)(k:Key):Item:=if itemAt l k<l.length then l.getD (itemAt l k) default else noItem
theorem Zjh(l:List Item)(k:Key)(hl:smallL l):AC Tryz.prog 292 [.pv (roL 7 cItem l),.pv (.agg (cKey k))] [] (.pv (.tup [.agg (cItem (getI l k)),vbool (decide (itemAt l k<l.length))])) []:=by
 refine AC.of_awp (T:=T) T_ok hm Tryz.call292 Tryz.func292 rfl rfl rfl ?_
 conv=>whnf
 refine .inl ⟨_,Zjj l k hl,?_⟩
 conv=>whnf
 unfold ixI
 by_cases hlt:itemAt l k<l.length
 ·rw[qK hlt]
  repeat(any_goals((first|refine QB ?_ ?_<;>intro h<;>(try simp only[Q0,Q1,Q2,Q3,Q4,Q5,Q6,Q7,Q8,reduceCtorEq]at h)|refine QI ?_)<;>conv=>whnf))
  ·refine⟨?_,?_⟩<;>(conv=>whnf)
   ·exact PSub.of_eq (by rw[getI,qK hlt];rfl)
   exact PSub.lit_sb (by simp[hlt])
  exfalso;omega
 rw[qJ hlt]
 repeat(any_goals((first|refine QB ?_ ?_<;>intro h<;>(try simp only[Q0,Q1,Q2,Q3,Q4,Q5,Q6,Q7,Q8,reduceCtorEq]at h)|refine QI ?_)<;>conv=>whnf))
 ·exfalso;omega
 refine⟨?_,?_⟩<;>(conv=>whnf)
 ·exact PSub.of_eq (by rw[getI,qJ hlt];rfl)
 exact PSub.lit_sb (by simp[hlt])
theorem val_eq(a b:Val):(decide (a.kind=b.kind)&&(decide (a.n=b.n)&&(decide (a.s=b.s)&&true)))=decide (a=b):=by
 obtain⟨a1,a2,a3⟩:=a;obtain⟨b1,b2,b3⟩:=b;rw[qt];simp
theorem Zas{α:Type}[Inhabited α]{enc:α->List PV}{l:List α}{i:Nat}{x:α}{F:Nat->List PV}(h1:∀j,j<l.length->j≠i->PSubs (F j) (enc (l.getD j default)))(h2:i<l.length->PSubs (F i) (enc x)) :
  ∀j,j<(l.set i x).length->PSubs (F j) (enc ((l.set i x).getD j default)):=by
 intro j hj;rw[List.length_set]at hj
 by_cases e:j=i
 ·subst e;have:(l.set j x).getD j default=x:=by simp[List.getD,hj]
  rw[this];exact h2 hj
 have:(l.set i x).getD j default=l.getD j default:=by simp[List.getD,List.getElem?_set_ne (Ne.symm e)]
 rw[this];exact h1 j hj e
def initL(H:Hom)(id:Int):List Item:=(List.range (keysL H id).length).map fun i=>⟨(keysL H id).getD i default,zeroV ((findA H ((keysL H id).getD i default)).getD noAttr),(i:Int)+1⟩
theorem Z60{H:Hom}(hH:smallH H){k:Key}:smallA ((findA H k).getD noAttr):=by
 unfold findA;cases h:partO H k.dev k.cluster with
 |none=>exact qe _
 |some c=>
  unfold attrO;simp only;have hc:smallK c:=by
   unfold partO at h
   split at h
   ·exact Z3d hH.1 h
   cases h
  split
  ·exact hc.2.1 _
  exact qe _
theorem Zfg{n k:Nat}(h:¬ixI n k<0):k<n∧ixI n k=(k:Int):=by
 unfold ixI at *;split<;>rename_i h2
 ·exact⟨h2,rfl⟩
 rw[qJ h2]at h;omega
theorem Z01{p:Nat->Prop}:∀i,i<0->p i:=fun i h=>absurd h (by omega)
theorem Z00{p:Nat->Prop}{n:Nat}(h1:∀i,i<n->p i)(h2:p n):∀i,i<n+1->p i:=fun i h=>by
 rcases Nat.lt_or_ge i n with h3|h3
 ·exact h1 i h3
 have:i=n:=by omega
 subst this;exact h2
theorem Z4x(s:ByteArray)(w sf:Bool):AC Tryz.prog 77 [.pv (vstr s),.pv (.val (.bool w)),.pv (.val (.bool sf))] [] (.pv (.agg (cAttr ⟨s,1,0,0,[],w,sf⟩))) []:=by
 refine AC.of_awp (T:=T) T_ok hm Tryz.call77 Tryz.func77 rfl rfl rfl ?_
 conv=>whnf
 exact PSub.agg ⟨.rfl,.rfl,.rfl,.rfl,PSub.nil_ro _ _,PSub.lit_sb rfl,PSub.lit_sb rfl,trivial⟩
theorem Z4y(s:ByteArray)(lo hi:Int)(w:Bool):AC Tryz.prog 79 [.pv (vstr s),.pv (vint lo),.pv (vint hi),.pv (.val (.bool w))] [] (.pv (.agg (cAttr ⟨s,2,lo,hi,[],w,false⟩))) []:=by
 refine AC.of_awp (T:=T) T_ok hm Tryz.call79 Tryz.func79 rfl rfl rfl ?_
 conv=>whnf
 exact PSub.agg ⟨.rfl,.rfl,.rfl,.rfl,PSub.nil_ro _ _,PSub.lit_sb rfl,PSub.lit_sb rfl,trivial⟩
theorem Z3y(s a:ByteArray)(n:Int):AC Tryz.prog 78 [.pv (vstr s),.pv (vstr a),.pv (vint n)] [] (.pv (.agg (cCmd ⟨s,noAttr,[⟨1,a,n⟩]⟩))) []:=by
 refine AC.of_awp (T:=T) T_ok hm Tryz.call78 Tryz.func78 rfl rfl rfl ?_
 conv=>whnf
 skip
 exact PSub.agg ⟨.rfl,.rfl,.rfl,.rfl,.rfl,PSub.nil_ro _ _,PSub.lit_sb rfl,PSub.lit_sb rfl,PSub.ro rfl (Z00 Z01 PSubs.rfl),trivial⟩
def flagA(s:ByteArray)(w sf:Bool):Attr:=⟨s,1,0,0,[],w,sf⟩
def numA(s:ByteArray)(lo hi:Int)(w:Bool):Attr:=⟨s,2,lo,hi,[],w,false⟩
def setsC(s a:ByteArray)(n:Int):Cmd:=⟨s,noAttr,[⟨1,a,n⟩]⟩
def stdC:List Clu:=[
 ⟨(⟨#[111,110,111,102,102]⟩:ByteArray),[flagA (⟨#[111,110]⟩:ByteArray) true false],[setsC (⟨#[111,110]⟩:ByteArray) (⟨#[111,110]⟩:ByteArray) 1,setsC (⟨#[111,102,102]⟩:ByteArray) (⟨#[111,110]⟩:ByteArray) 0,⟨(⟨#[116,111,103,103,108,101]⟩:ByteArray),noAttr,[⟨4,(⟨#[111,110]⟩:ByteArray),0⟩]⟩],[]⟩,
 ⟨(⟨#[108,101,118,101,108]⟩:ByteArray),[numA (⟨#[108,101,118,101,108]⟩:ByteArray) 0 100 true],[⟨(⟨#[109,111,118,101]⟩:ByteArray),numA (⟨#[116,111]⟩:ByteArray) 0 100 false,[⟨2,(⟨#[108,101,118,101,108]⟩:ByteArray),0⟩]⟩,⟨(⟨#[115,116,101,112]⟩:ByteArray),noAttr,[⟨3,(⟨#[108,101,118,101,108]⟩:ByteArray),10⟩]⟩],[]⟩,
 ⟨(⟨#[108,111,99,107]⟩:ByteArray),[flagA (⟨#[108,111,99,107,101,100]⟩:ByteArray) true true],[setsC (⟨#[108,111,99,107]⟩:ByteArray) (⟨#[108,111,99,107,101,100]⟩:ByteArray) 1,setsC (⟨#[117,110,108,111,99,107]⟩:ByteArray) (⟨#[108,111,99,107,101,100]⟩:ByteArray) 0],[(⟨#[106,97,109]⟩:ByteArray)]⟩,
 ⟨(⟨#[116,104,101,114,109,111,115,116,97,116]⟩:ByteArray),[numA (⟨#[116,97,114,103,101,116]⟩:ByteArray) 50 300 true,numA (⟨#[116,101,109,112]⟩:ByteArray) (-500) 1000 false],[],[]⟩,
 ⟨(⟨#[115,109,111,107,101]⟩:ByteArray),[flagA (⟨#[97,108,97,114,109]⟩:ByteArray) false true],[],[(⟨#[116,101,115,116]⟩:ByteArray)]⟩,
 ⟨(⟨#[108,101,97,107]⟩:ByteArray),[flagA (⟨#[119,101,116]⟩:ByteArray) false true],[],[]⟩,
 ⟨(⟨#[118,97,108,118,101]⟩:ByteArray),[flagA (⟨#[111,112,101,110]⟩:ByteArray) true true],[setsC (⟨#[111,112,101,110]⟩:ByteArray) (⟨#[111,112,101,110]⟩:ByteArray) 1,setsC (⟨#[99,108,111,115,101]⟩:ByteArray) (⟨#[111,112,101,110]⟩:ByteArray) 0],[]⟩,
 ⟨(⟨#[109,101,116,101,114]⟩:ByteArray),[numA (⟨#[112,111,119,101,114]⟩:ByteArray) 0 100000 false],[],[]⟩]
def nameRow(k i:Nat):List PV:=[vstr (if i<k then glob0.getD i default else⟨#[]⟩),.val (.slice none 0 0),.val (.slice none 0 0),.val (.slice none 0 0)]
set_option maxHeartbeats 2000000 in
theorem Zj8:AC Tryz.prog 48 [] [] (.pv (roL 4 cClu stdC)) []:=by
 refine AC.of_awp (T:=T) T_ok hm Tryz.call48 Tryz.func48 rfl rfl rfl ?_
 conv=>whnf
 refine qa (by omega) ?_
 conv=>whnf
 refine loop_k (ι:=Nat) [1,5] [] (fun k=>k<=8∧True) (fun k=>8-k) 0 (fun k=>[(6,.pv (vint k))]) (fun k=>[(4,.row 4 8 (nameRow k))]) [] ⟨qe _,trivial⟩ ?_ (fun k hk=>?_)
 ·(repeat'(first|exact QC|refine qa ?_ ?_));all_goals((intro i hi;exact PSubs.rfl))
 obtain⟨hkn,hinv⟩:=hk
 conv=>whnf
 repeat(any_goals((first|refine QB ?_ ?_<;>intro h<;>(try simp only[Q0,Q1,Q2,Q3,Q4,Q5,Q6,Q7,Q8,reduceCtorEq]at h))<;>conv=>whnf))
 ·refine qa (show 0<=(k:Int)∧(k:Int)<((8:Nat):Int)from by omega) ?_;refine⟨vstr (glob0.getD k default),fun q hq=>?_,?_⟩
  ·have hk8:k<8:=by omega
   rcases k with _|_|_|_|_|_|_|_|k
   all_goals first|omega|(cases hq;exact .rfl)
  conv=>whnf
  repeat(any_goals((first|refine QI ?_|refine QW ?_)<;>conv=>whnf))
  refine⟨k+1,[],⟨by omega,trivial⟩,by omega,?_⟩;(repeat'(first|exact QC|refine qa ?_ ?_));intro i hi;simp only[Q4]
  by_cases e:i=k
  ·subst e;rw[Z19];exact⟨PSub.str (by rw[qK (by omega)]),.rfl,.rfl,.rfl,trivial⟩
  rw[Z11 e];exact⟨PSub.str (by by_cases h2:i<k;rw[qK h2,qK (by omega)];rw[qJ h2,qJ (by omega)]),.rfl,.rfl,.rfl,trivial⟩
 have e:k=8:=by omega
 subst e;refine .inl ⟨_,Z4x (⟨#[111,110]⟩:ByteArray) true false,?_⟩
 conv=>whnf
 repeat(refine qa (by omega) ?_;conv=>whnf)
 refine .inl ⟨_,Z3y (⟨#[111,110]⟩:ByteArray) (⟨#[111,110]⟩:ByteArray) 1,?_⟩
 conv=>whnf
 repeat(refine qa (by omega) ?_;conv=>whnf)
 refine .inl ⟨_,Z3y (⟨#[111,102,102]⟩:ByteArray) (⟨#[111,110]⟩:ByteArray) 0,?_⟩
 conv=>whnf
 repeat(refine qa (by omega) ?_;conv=>whnf)
 refine .inl ⟨_,Z4y (⟨#[108,101,118,101,108]⟩:ByteArray) 0 100 true,?_⟩
 conv=>whnf
 repeat(refine qa (by omega) ?_;conv=>whnf)
 refine .inl ⟨_,Z4y (⟨#[116,111]⟩:ByteArray) 0 100 false,?_⟩
 conv=>whnf
 repeat(refine qa (by omega) ?_;conv=>whnf)
 refine .inl ⟨_,Z4x (⟨#[108,111,99,107,101,100]⟩:ByteArray) true true,?_⟩
 conv=>whnf
 repeat(refine qa (by omega) ?_;conv=>whnf)
 refine .inl ⟨_,Z3y (⟨#[108,111,99,107]⟩:ByteArray) (⟨#[108,111,99,107,101,100]⟩:ByteArray) 1,?_⟩
 conv=>whnf
 repeat(refine qa (by omega) ?_;conv=>whnf)
 refine .inl ⟨_,Z3y (⟨#[117,110,108,111,99,107]⟩:ByteArray) (⟨#[108,111,99,107,101,100]⟩:ByteArray) 0,?_⟩
 conv=>whnf
 repeat(refine qa (by omega) ?_;conv=>whnf)
 refine .inl ⟨_,Z4y (⟨#[116,97,114,103,101,116]⟩:ByteArray) 50 300 true,?_⟩
 conv=>whnf
 repeat(refine qa (by omega) ?_;conv=>whnf)
 refine .inl ⟨_,Z4y (⟨#[116,101,109,112]⟩:ByteArray) (-500) 1000 false,?_⟩
 conv=>whnf
 repeat(refine qa (by omega) ?_;conv=>whnf)
 refine .inl ⟨_,Z4x (⟨#[97,108,97,114,109]⟩:ByteArray) false true,?_⟩
 conv=>whnf
 repeat(refine qa (by omega) ?_;conv=>whnf)
 refine .inl ⟨_,Z4x (⟨#[119,101,116]⟩:ByteArray) false true,?_⟩
 conv=>whnf
 repeat(refine qa (by omega) ?_;conv=>whnf)
 refine .inl ⟨_,Z4x (⟨#[111,112,101,110]⟩:ByteArray) true true,?_⟩
 conv=>whnf
 repeat(refine qa (by omega) ?_;conv=>whnf)
 refine .inl ⟨_,Z3y (⟨#[111,112,101,110]⟩:ByteArray) (⟨#[111,112,101,110]⟩:ByteArray) 1,?_⟩
 conv=>whnf
 repeat(refine qa (by omega) ?_;conv=>whnf)
 refine .inl ⟨_,Z3y (⟨#[99,108,111,115,101]⟩:ByteArray) (⟨#[111,112,101,110]⟩:ByteArray) 0,?_⟩
 conv=>whnf
 repeat(refine qa (by omega) ?_;conv=>whnf)
 refine .inl ⟨_,Z4y (⟨#[112,111,119,101,114]⟩:ByteArray) 0 100000 false,?_⟩
 conv=>whnf
 repeat(refine qa (by omega) ?_;conv=>whnf)
 all_goals exact QE
def homeX:Hom:=⟨stdC,[⟨1,0,0,false,0,(⟨#[104,97,108,108]⟩:ByteArray),[(⟨#[111,110,111,102,102]⟩:ByteArray),(⟨#[108,101,118,101,108]⟩:ByteArray)]⟩]⟩
def kLev:Key:=⟨1,(⟨#[108,101,118,101,108]⟩:ByteArray),(⟨#[108,101,118,101,108]⟩:ByteArray)⟩
theorem ex1:homE homeX=0:=by kernel_rfl
theorem ex2:initL homeX 1 = [⟨⟨1,(⟨#[111,110,111,102,102]⟩:ByteArray),(⟨#[111,110]⟩:ByteArray)⟩,⟨1,0,⟨#[]⟩⟩,1⟩,⟨kLev,⟨2,0,⟨#[]⟩⟩,2⟩]:=by kernel_rfl
def L1:List Item:=[⟨⟨1,(⟨#[111,110,111,102,102]⟩:ByteArray),(⟨#[111,110]⟩:ByteArray)⟩,⟨1,0,⟨#[]⟩⟩,1⟩,⟨kLev,⟨2,0,⟨#[]⟩⟩,2⟩]
def L2:List Item:=[⟨⟨1,(⟨#[111,110,111,102,102]⟩:ByteArray),(⟨#[111,110]⟩:ByteArray)⟩,⟨1,0,⟨#[]⟩⟩,1⟩,⟨kLev,⟨2,7,⟨#[]⟩⟩,3⟩]
theorem sl{α:Type}{l:List α}(h:Nat.ble l.length 1048576=true):smallL l:=qi h
theorem Zb5:∀i,smallK (stdC.getD i default):=by
 intro i;have key:∀c∈stdC,smallK c:=by
  intro c hc;simp only[stdC,qk,List.not_mem_nil,or_false]at hc;have dA:∀i,smallA (List.getD [] i (default:Attr)):=fun i=>qe _
  have dC:∀i,smallC (List.getD [] i (default:Cmd)):=fun i=>⟨qe _,qe _⟩
  have A1:∀(a:Attr),smallA a->∀i,smallA (List.getD [a] i default):=fun a h i=>by cases i with|zero=>exact h|succ i=>exact qe _
  have A2:∀(a b:Attr),smallA a->smallA b->∀i,smallA (List.getD [a,b] i default):=fun a b h h2 i=>by cases i with|zero=>exact h|succ i=>exact A1 b h2 i
  have C2:∀(a b:Cmd),smallC a->smallC b->∀i,smallC (List.getD [a,b] i default):=fun a b h h2 i=>by
   cases i with
   |zero=>exact h
   |succ i=>cases i with
    |zero=>exact h2
    |succ i=>exact⟨qe _,qe _⟩
  have C3:∀(a b c:Cmd),smallC a->smallC b->smallC c->∀i,smallC (List.getD [a,b,c] i default):=fun a b c h h2 h3 i=>by cases i with|zero=>exact h|succ i=>exact C2 b c h2 h3 i
  have f:∀s w sf,smallA (flagA s w sf):=fun _ _ _=>qe _
  have n:∀s lo hi w,smallA (numA s lo hi w):=fun _ _ _ _=>qe _
  have c1:∀s a k,smallC (setsC s a k):=fun _ _ _=>⟨qe _,sl rfl⟩
  have c2:∀s a e,smallA a->smallC ⟨s,a,[e]⟩:=fun _ _ _ h=>⟨h,sl rfl⟩
  rcases hc with rfl|rfl|rfl|rfl|rfl|rfl|rfl|rfl
  all_goals refine⟨sl rfl,?_,sl rfl,?_,sl rfl⟩
  all_goals first
   |exact dA|exact dC|exact A1 _ (f _ _ _)|exact A1 _ (n _ _ _ _)|exact A2 _ _ (n _ _ _ _) (n _ _ _ _)
   |exact C2 _ _ (c1 _ _ _) (c1 _ _ _)|exact C2 _ _ (c2 _ _ _ (n _ _ _ _)) (c2 _ _ _ (qe _))|exact C3 _ _ _ (c1 _ _ _) (c1 _ _ _) (c2 _ _ _ (qe _))
 by_cases h:i<stdC.length
 ·have:stdC.getD i default=stdC[i]:=by simp[List.getD,h]
  rw[this];exact key _ (qE h)
 have:stdC.getD i default=default:=by simp[List.getD,Nat.le_of_not_lt h]
 rw[this];exact⟨qe _,fun _=>qe _,qe _,fun _=>⟨qe _,qe _⟩,qe _⟩
open Go.Proofs Go.RowKit
section
variable {H:Type} {enc:TypeId×Value->H} {w:World} {bulk:DataW H->Nat}
abbrev BB:Nat:=1048576
def inI64(n:Int):Prop:=-9223372036854775808<=n∧n<=9223372036854775807
theorem wf64{n:Int}(h:(Lit.int .i64 n).wf=true):inI64 n:=by
 simp only[Lit.wf,qc,Q0]at h;exact h
theorem op_int:Opens enc Tryz.prog w bulk BB 3 cint inI64:=(Opens.int Tryz.underlying3).imp id (fun _=>rfl) (fun _ h=>wf64 h)
theorem Z0k(hB:BulkOk bulk):Opens enc Tryz.prog w bulk BB 9 cstr (fun s=>s.size<=1048576):=Opens.str hB Tryz.underlying9
theorem Z2k(hB:BulkOk bulk):Opens enc Tryz.prog w bulk BB 26 (fun l:List ByteArray=>[roL 1 cstr l]) smallL:=
 (Opens.slice hB Tryz.underlying26 (by kernel_rfl) (by decide) (Z0k hB)).imp id (fun _=>rfl) (fun _ h=>h.1)
def goodKey(k:Key):Prop:=inI64 k.dev
theorem op_Key(hB:BulkOk bulk):Opens enc Tryz.prog w bulk BB 58 cKey goodKey:=
 (Opens.struct hB Tryz.underlying58 (by kernel_rfl) (.cons (size:=1) rfl (by kernel_rfl) op_int (.cons (size:=1) rfl (by kernel_rfl) (Z0k hB) (.cons (size:=1) rfl (by kernel_rfl) (Z0k hB) .nil)))).imp (fun x=>⟨x.1,x.2.1,x.2.2.1⟩) (fun _=>rfl) (fun _ h=>h.1)
def goodVal(v:Val):Prop:=inI64 v.kind∧inI64 v.n
theorem Zae(hB:BulkOk bulk):Opens enc Tryz.prog w bulk BB 56 cVal goodVal:=
 (Opens.struct hB Tryz.underlying56 (by kernel_rfl) (.cons (size:=1) rfl (by kernel_rfl) op_int (.cons (size:=1) rfl (by kernel_rfl) op_int (.cons (size:=1) rfl (by kernel_rfl) (Z0k hB) .nil)))).imp (fun x=>⟨x.1,x.2.1,x.2.2.1⟩) (fun _=>rfl) (fun _ h=>⟨h.1,h.2.1⟩)
end
end Go.Abs
namespace Go.Proofs.YtipbekclhmbclaaGreatDoor
open Go.ChangeShapes Go.WideShapes Go.ChangeAt Go.RowKit Go.Abs
theorem own:ownKnob Tryz.prog.godebug=none:=by kernel_rfl
theorem laidOut:laidOutB Tryz.prog=true:=by kernel_rfl
theorem glob{W:World}(h:laidMetH Tryz.prog [("homehub/cluster.standard",Rows.laid_homehub_cluster_standard)] W):Glob W (fun _=>False):=by
 intro g cs hg;have h0:g=0∧cs=glob0.map fun s=>.val (.string s):=by
  simp only[Globals.get]at hg
  split at hg
  ·rename_i e;exact⟨by simpa[Nat.beq_eq]using e,by cases hg;rfl⟩
  cases hg
 obtain⟨rfl,rfl⟩:=h0;exact strTab (name:= "homehub/cluster.standard") (ss:=glob0) (rest:=[]) (g:=0) (t:=153) (e:=9) (n:=8) (by kernel_rfl) (by kernel_rfl) Tryz.underlying153 Tryz.underlying9 (by kernel_rfl) (by kernel_rfl) (by decide) h
noncomputable def laidWorld(os:Os):World:=
 { World.holding Tryz.prog os ⟨#[],#[],[]⟩with heap:=(World.holding Tryz.prog os ⟨#[],#[],[]⟩).heap.modify 0 fun
   | .cells _ t frozen=>.cells (glob0.map fun s=>Value.string s).toArray t frozen
   |o=>o }
theorem bulkOk{H:Type}:BulkOk (Rows.uptoBulk (H:=H)):=by
 have one_le:∀d:DataW H,1<=Rows.uptoBulk d:=fun d=>by
  cases d with
  |lit l=>cases l<;>simp[Rows.uptoBulk]
  |nil=>simp[Rows.uptoBulk]
  |ptr d=>simp[Rows.uptoBulk]
  |slice elems spare=>simp[Rows.uptoBulk]
  |agg parts=>simp[Rows.uptoBulk]
  |iface t d=>simp[Rows.uptoBulk]
  |map entries=>simp[Rows.uptoBulk]
  |held h=>simp[Rows.uptoBulk]
 have part_le:∀(l:List (DataW H)) (d:DataW H),d∈l->Rows.uptoBulk d<=Rows.uptoBulkAll l:=by
  intro l
  induction l with
  |nil=>intro d h;cases h
  |cons x r ih=>
   intro d h;simp only[Rows.uptoBulkAll];cases qk.1 h with
   |inl e=>subst e;omega
   |inr e=>have:=ih d e;omega
 have length_le:∀(l:List (DataW H)),l.length<=Rows.uptoBulkAll l:=by
  intro l
  induction l with
  |nil=>simp[Rows.uptoBulkAll]
  |cons x r ih=>have:=one_le x;simp only[Rows.uptoBulkAll,qy];omega
 refine⟨fun bytes=>by simp[Rows.uptoBulk],fun e s=>?_,fun e s d h=>?_,fun l d h=>?_⟩
 ·have:=length_le e;simp only[Rows.uptoBulk];omega
 ·have:=part_le e d h;simp only[Rows.uptoBulk];omega
 have:=part_le l d h;simp only[Rows.uptoBulk];omega
theorem Zxs{H:Type}{l:List (DataW H)}(hk:Rows.uptoSmall H l=true):Rows.uptoBulkAll l<=1048576:=qC hk
theorem Zyt{f:FuncId}{fn:Func}{H:Type}{enc:TypeId×Value->H}{W:World}{args:Array Value}{ds gs:List (DataW H)}{before:List MemPlace}{s:ChangeSpec}{tb:TypeId}{xs:List PV}
  (hac:AC Tryz.prog f (xs.map .pv) [] (.pv (vbool true)) []) (hlen:args.size=xs.length) (hx:∀(i:Nat) (p:PV),xs[i]? = some p->PR W (fun _=>False) p (args.getD i undef))
  (hr:∀t∈fn.params.toList,Tryz.prog.readableRec t=true∧t<Tryz.prog.types.size)
  (hres:fn.resultTypes=#[tb]) (htb:Tryz.prog.underlying tb=some .bool) (hv:s.vars = []) (hfn:s.fn H ds ={ results:=[.lit (.bool true)],args:=ds })
  (hW:DataW.Whole enc Tryz.prog fn.params.toList s.vars false W args.toList ds gs before) (hg:Glob W (fun _=>False)) :
  Calls Tryz.prog f args W fun e W'=>∃v,e = .returned v∧s.post enc Tryz.prog fn false true false false W args v W':=by
 refine(hac.calls hg (by simpa using hlen) (fun i x e=>?_)).mono ?_
 ·rw[qx]at e;cases hp:xs[i]? with
  |none=>rw[hp]at e;cases e
  |some p=>
   rw[hp]at e;cases e;exact .pv _ _ (hx i p hp)
 rintro e W' ⟨v,rfl,hv2,hb⟩
 cases hv2;exact⟨_,rfl,Zr2 laidOut hr hres htb hv hfn hb hW⟩
end Go.Proofs.YtipbekclhmbclaaGreatDoor
