/- YtipbekclhmbclaaGreatDoorX07: walks and contracts. -/
import Derived.Test.YtipbekclhmbclaaGreatDoorX06
import Derived.Shelf.Sort.Plain
import Derived.Ground.NamesProg
import Derived.Test.YtipbekclhmbclaaGreatDoorProg
import Derived.Shelf.Slices.In.SortNone
import Derived.OrdersIn
import Derived.RangeFuncLeaves
import Derived.RangeFuncRecord
import Derived.TacticsIn

set_option linter.unusedVariables false
set_option linter.unusedSimpArgs false
set_option linter.unusedSectionVars false

namespace Go.Abs
open Go.Proofs
set_option maxRecDepth 10000
theorem Z99(m:Int):0<=clampI m 0 1073741824∧clampI m 0 1073741824<=1073741824:=by
 unfold clampI;(repeat' split)<;>omega
theorem Zbe{a:Int}(h:0<=a∧a<=1073741824):0<=a.tdiv 1440∧a.tdiv 1440<=1073741824:=by
 rw[Int.tdiv_eq_ediv_of_nonneg h.1];exact⟨Int.ediv_nonneg h.1 (by omega),Int.le_trans (Int.ediv_le_self _ h.1) h.2⟩
theorem Ziu(m:Int):0<=weekday m∧weekday m<=6:=by
 unfold weekday;have h:=Zbe (Z99 m);rw[Int.tmod_eq_emod_of_nonneg (by omega)];omega
theorem Zbm(m:Int):AC Tryz.prog 211 [.pv (vint m)] [] (.pv (vint (clampI m 0 1073741824))) []:=by
 refine AC.of_awp (T:=T) T_ok hm Tryz.call211 Tryz.func211 rfl rfl rfl ?_
 conv=>whnf
 repeat(any_goals((first|refine .inl ⟨_,Z87 m 0 1073741824,?_⟩)<;>conv=>whnf))
 all_goals exact PSub.rfl
theorem Zbk(m:Int):AC Tryz.prog 150 [.pv (vint m)] [] (.pv (vint (ofDay m))) []:=by
 refine AC.of_awp (T:=T) T_ok hm Tryz.call150 Tryz.func150 rfl rfl rfl ?_
 conv=>whnf
 repeat(any_goals((first|refine .inl ⟨_,Zbm m,?_⟩|refine QI ?_)<;>conv=>whnf))
 all_goals exact PSub.rfl
theorem Zbl(m:Int):AC Tryz.prog 151 [.pv (vint m)] [] (.pv (vint (weekday m))) []:=by
 have hc:=Z99 m;have hd:=Zbe hc;refine AC.of_awp (T:=T) T_ok hm Tryz.call151 Tryz.func151 rfl rfl rfl ?_
 conv=>whnf
 repeat(any_goals((first|refine .inl ⟨_,Zbm m,?_⟩|refine QI ?_|refine QW ?_)<;>conv=>whnf))
 all_goals exact PSub.rfl
theorem Z2v(b:Bool):AC Tryz.prog 148 [.pv (vbool b)] [] (.pv (.tup [.agg (cVal (truV b)),vbool true])) []:=by
 refine AC.of_awp (T:=T) T_ok hm Tryz.call148 Tryz.func148 rfl rfl rfl ?_
 conv=>whnf
 repeat(any_goals((first|refine QB ?_ ?_<;>intro h<;>(try simp only[Q0,Q1,Q2,Q3,Q4,Q5,Q6,Q7,Q8,reduceCtorEq]at h))<;>conv=>whnf))
 ·subst h;refine⟨?_,?_⟩<;>(conv=>whnf)
  ·exact QE
  exact QE
 subst h;refine⟨?_,?_⟩<;>(conv=>whnf)
 ·exact QE
 exact QE
theorem Z1t:AC Tryz.prog 97 [] [] (.pv (.tup [.agg (cVal noVal),vbool false])) []:=by
 refine AC.of_awp (T:=T) T_ok hm Tryz.call97 Tryz.func97 rfl rfl rfl ?_
 conv=>whnf
 skip
 refine⟨?_,?_⟩<;>(conv=>whnf)
 ·exact QE
 exact QE
theorem Zjp(t a b:Int):AC Tryz.prog 149 [.pv (vint t),.pv (vint a),.pv (vint b)] [] (.pv (vbool (within t a b))) []:=by
 refine AC.of_awp (T:=T) T_ok hm Tryz.call149 Tryz.func149 rfl rfl rfl ?_
 conv=>whnf
 repeat(any_goals((first|refine QB ?_ ?_<;>intro h<;>(try simp only[Q0,Q1,Q2,Q3,Q4,Q5,Q6,Q7,Q8,reduceCtorEq]at h))<;>conv=>whnf))
 all_goals first
  |contradiction
  |(exfalso;omega)
  |exact PSub.rfl
  |(refine PSub.lit_sb ?_;(first|(simp[within, *];done)|(simp_all[within];done)|((try simp only[within]);(repeat' split)<;>(try simp only[qh,qj,qd,Q1,qc,Q0,Q6])<;>first|rfl|omega|(simp_all;done)|(simp_all;omega))))
  |(refine PSub.sb ?_;(first|(simp[within, *];done)|(simp_all[within];done)|((try simp only[within]);(repeat' split)<;>(try simp only[qh,qj,qd,Q1,qc,Q0,Q6])<;>first|rfl|omega|(simp_all;done)|(simp_all;omega))))
  |(refine PSub.sb_lit ?_;(first|(simp[within, *];done)|(simp_all[within];done)|((try simp only[within]);(repeat' split)<;>(try simp only[qh,qj,qd,Q1,qc,Q0,Q6])<;>first|rfl|omega|(simp_all;done)|(simp_all;omega))))
  |(refine PSub.int ?_;(first|(simp[within, *];done)|(simp_all[within];done)|((try simp only[within]);(repeat' split)<;>(try simp only[qh,qj,qd,Q1,qc,Q0,Q6])<;>first|rfl|omega|(simp_all;done)|(simp_all;omega))))
  |skip
end Go.Abs
namespace Go.Proofs
open Go.Shelf
def Tryz.sortStr_ren:Go.Shelf.Ren:=⟨fun|190=>58|125=>102|258=>101|128=>166|129=>167|302=>157|303=>158|304=>159|305=>160|306=>161|307=>162|308=>163|309=>164|310=>165|333=>217|329=>218|330=>219|334=>220|335=>221|336=>222|344=>254|n=>n,fun|31=>26|9=>9|3=>3|46=>185|0=>0|51=>235|53=>124|4=>4|183=>228|182=>227|131=>232|5=>5|218=>267|222=>271|228=>285|229=>177|n=>n,fun|n=>n⟩
theorem Tryz.sortStr:Go.Proofs.Lays.n190 Tryz.prog Tryz.sortStr_ren:={
 mixed:=by kernel_rfl
 f125:=Tryz.func102.trans (congrArg some (by kernel_rfl))
 f128:=Tryz.func166.trans (congrArg some (by kernel_rfl))
 f129:=Tryz.func167.trans (congrArg some (by kernel_rfl))
 f190:=Tryz.func58.trans (congrArg some (by kernel_rfl))
 f258:=Tryz.func101.trans (congrArg some (by kernel_rfl))
 f302:=Tryz.func157.trans (congrArg some (by kernel_rfl))
 f303:=Tryz.func158.trans (congrArg some (by kernel_rfl))
 f304:=Tryz.func159.trans (congrArg some (by kernel_rfl))
 f305:=Tryz.func160.trans (congrArg some (by kernel_rfl))
 f306:=Tryz.func161.trans (congrArg some (by kernel_rfl))
 f307:=Tryz.func162.trans (congrArg some (by kernel_rfl))
 f308:=Tryz.func163.trans (congrArg some (by kernel_rfl))
 f309:=Tryz.func164.trans (congrArg some (by kernel_rfl))
 f310:=Tryz.func165.trans (congrArg some (by kernel_rfl))
 f329:=Tryz.func218.trans (congrArg some (by kernel_rfl))
 f330:=Tryz.func219.trans (congrArg some (by kernel_rfl))
 f333:=Tryz.func217.trans (congrArg some (by kernel_rfl))
 f334:=Tryz.func220.trans (congrArg some (by kernel_rfl))
 f335:=Tryz.func221.trans (congrArg some (by kernel_rfl))
 f336:=Tryz.func222.trans (congrArg some (by kernel_rfl))
 f344:=Tryz.func254.trans (congrArg some (by kernel_rfl))
 t0:=Tryz.underlying0
 a0:=Tryz.isAgg0
 z0:=Tryz.sizeOf0
 v0:=Tryz.zeroValue0
 t3:=Tryz.underlying3
 a3:=Tryz.isAgg3
 z3:=Tryz.sizeOf3
 v3:=Tryz.zeroValue3
 t4:=Tryz.underlying4
 a4:=Tryz.isAgg4
 z4:=Tryz.sizeOf4
 v4:=Tryz.zeroValue4
 t5:=Tryz.underlying5
 a5:=Tryz.isAgg5
 z5:=Tryz.sizeOf5
 v5:=Tryz.zeroValue5
 t9:=Tryz.underlying9
 a9:=Tryz.isAgg9
 z9:=Tryz.sizeOf9
 v9:=Tryz.zeroValue9
 t31:=Tryz.underlying26
 a31:=Tryz.isAgg26
 z31:=Tryz.sizeOf26
 v31:=Tryz.zeroValue26
 t46:=Tryz.underlying185
 a46:=Tryz.isAgg185
 z46:=Tryz.sizeOf185
 v46:=Tryz.zeroValue185
 t51:=Tryz.underlying235
 a51:=Tryz.isAgg235
 z51:=Tryz.sizeOf235
 v51:=Tryz.zeroValue235
 t53:=Tryz.underlying124
 a53:=Tryz.isAgg124
 z53:=Tryz.sizeOf124
 v53:=Tryz.zeroValue124
 t131:=Tryz.underlying232
 a131:=Tryz.isAgg232
 z131:=Tryz.sizeOf232
 v131:=Tryz.zeroValue232
 t182:=Tryz.underlying227
 a182:=Tryz.isAgg227
 z182:=Tryz.sizeOf227
 v182:=Tryz.zeroValue227
 t183:=Tryz.underlying228
 a183:=Tryz.isAgg228
 z183:=Tryz.sizeOf228
 v183:=Tryz.zeroValue228
 t218:=Tryz.underlying267
 a218:=Tryz.isAgg267
 z218:=Tryz.sizeOf267
 v218:=Tryz.zeroValue267
 t222:=Tryz.underlying271
 a222:=Tryz.isAgg271
 z222:=Tryz.sizeOf271
 v222:=Tryz.zeroValue271
 t228:=Tryz.underlying285
 a228:=Tryz.isAgg285
 z228:=Tryz.sizeOf285
 v228:=Tryz.zeroValue285
 t229:=Tryz.underlying177
 a229:=Tryz.isAgg177
 z229:=Tryz.sizeOf177
 v229:=Tryz.zeroValue177 }
end Go.Proofs
namespace Go.Abs
open Go.RowKit Go.Shelf Go.Sort
variable [Globals]
section
variable {P:Program} {ρ:Ren} {α:Type} [Inhabited α]
theorem AC.inPlace {f : FuncId} (k : Nat) (encV : α → List Value) (hk : ∀ x, (encV x).length = k) (h1 : ∀ x, ∀ v ∈ encV x, v.oneCell' = true)
    (hcall : ∀ (vals : Array Value) (w : World), (callFunc f vals).run P w = .ok (.enter f vals) w) (l l' : List α) (hl' : l'.length = l.length)
    (hnone : ∀ (a : Option Addr) (cap : Nat) (w : World), Calls P f #[.slice a 0 cap] w fun e w' => e = .returned (.tuple #[]) ∧ w' = w)
    (hsome : ∀ (b cap : Nat) (w : World), HoldsK encV k w b 0 l.toArray → b < w.heap.size → Calls P f #[.slice (some ⟨b, 0, none⟩) l.length cap] w fun e w' => e = .returned (.tuple #[]) ∧ ∃ n os, w' = Proofs.sortWorldK encV k w b 0 n l'.toArray os) :
    AC P f [.own 0] [(0, .row k l.length fun i => (encV (l.getD i default)).map .val)] (.pv (.tup [])) [(0, .row k l.length fun i => (encV (l'.getD i default)).map .val)] := by
  refine ⟨hcall, fun St M0 σ w vals hi hσ hos hsz hA => ?_⟩
  obtain ⟨loc, hloc, hor⟩ := hos 0 _ (by simp [getO]; rfl)
  have hv0 := Z0l (hA 0 (.own 0) rfl) hloc
  have hvals : vals = #[vals.getD 0 undef] := by
    have hs2 : vals.size = 1 := hsz
    apply Array.ext
    · simpa using hs2
    · intro i h2 h3
      have : i = 0 := by omega
      subst this; simp [Array.getD, hs2]
  rw [hvals, hv0]
  have done : ∀ w' : World, w' = w → l.length = 0 → ∃ v σ', Ending.returned (.tuple #[]) = .returned v ∧ Post P St M0 σ w [(0, .row k l.length fun i => (encV (l'.getD i default)).map .val)] (.pv (.tup [])) σ' v w' := by
    rintro w' rfl hl0
    refine ⟨_, σ, rfl, Post.redo hi ⟨loc, hloc, ?_⟩ (.pv _ _ (.tup _ _ rfl fun i p e => by simp at e))⟩
    have h0 : l = [] := List.length_eq_zero_iff.1 hl0
    subst h0
    have h1 : l' = [] := List.length_eq_zero_iff.1 (by simpa using hl')
    subst h1
    simpa using hor
  generalize hn0 : l.length = n0 at hor
  cases hor with
  | row0 _ _ a =>
    refine (hnone a 0 w).mono (fun e w' h => ?_)
    obtain ⟨rfl, hw⟩ := h
    have h5 := done w' hw hn0
    rw [hn0] at h5
    exact h5
  | row _ _ _ b cap vs t hb hn hmax hsz' hs hh hone =>
    subst hn0
    by_cases h0 : l.length = 0
    · have none' : ∀ n, n = 0 → Calls P f #[.slice (some ⟨b, 0, none⟩) n cap] w fun e w' => e = .returned (.tuple #[]) ∧ w' = w := by
        intro n hn
        rw [hn]
        exact hnone (some ⟨b, 0, none⟩) cap w
      have := none' l.length h0
      refine this.mono (fun e w' h => ?_)
      obtain ⟨rfl, hw⟩ := h
      exact done w' hw h0
    · have hblk := Z0e hb
      have hget : ∀ j, j < l.length * k → vs.getD j undef = (flatK encV k l.toArray)[j]! := by
        intro j hj
        have k0 : 0 < k := by rcases Nat.eq_zero_or_pos k with h | h; · subst h; simp at hj
                              · exact h
        have hd : j / k < l.length := (Nat.div_lt_iff_lt_mul k0).2 hj
        have hm : j % k < (encV (l.getD (j / k) default)).length := by rw [hk]; exact Nat.mod_lt _ k0
        have hp := hh (j / k) hd (j % k) (.val ((encV (l.getD (j / k) default))[j % k]'hm)) (by simp [hm])
        have hp := pr_val hp
        rw [show j / k * k + j % k = j from by rw [Nat.mul_comm]; exact Nat.div_add_mod j k] at hp
        rw [hp, get_flatK _ _ _ _ (by simpa using hj)]
        have e1 : l.toArray[j / k]! = l.getD (j / k) default := by simp [List.getD, hd]
        rw [e1, getElem!_pos (encV (l.getD (j / k) default)) (j % k) hm]
      have hH : HoldsK encV k w b 0 l.toArray := by
        intro j hj
        have hj' : j < l.length * k := by simpa using hj
        have hlt : j < vs.size := by rw [hsz']; exact Nat.lt_of_lt_of_le hj' (Nat.mul_le_mul_right _ hn)
        refine ⟨?_, ?_⟩
        · rw [Nat.zero_add, id, ← hget j hj']
          simp [World.cell?, hb, Array.getD, hlt]
        · simp [World.frozen?, hb]
      have := hsome b cap w hH hblk
      refine this.mono ?_
      rintro e w' ⟨rfl, n, os, rfl⟩
      have hx := Zi3 (encV := encV) (k := k) (w := w) (b := b) (n := n) (d := l'.toArray) (os := os)
      have hrow := Zi4 (encV := encV) (k := k) (w := w) (b := b) (n := n) (d := l'.toArray) (os := os) hb
      have hlm : l'.length = l.length := hl'
      refine ⟨_, σ, rfl, Post.upd hi hloc rfl hx (by simp) (.row _ _ _ b cap _ t hrow hn hmax (by simp [Sort.putCells, hsz']) (fun i hi' => by simp [hk]) (fun i hi' j p e => ?_) (fun i hi' => ?_)) (.pv _ _ (.tup _ _ rfl fun i p e => by simp at e))⟩
      · rw [List.getElem?_map] at e
        cases hq : (encV (l'.getD i default))[j]? with
        | none => rw [hq] at e; cases e
        | some q =>
          rw [hq] at e; cases e
          have hj : j < k := by have := (List.getElem?_eq_some_iff.1 hq).1; rwa [hk] at this
          have hlt : i * k + j < l.length * k := idx_lt hi' hj
          have hltv : i * k + j < vs.size := by rw [hsz']; exact Nat.lt_of_lt_of_le hlt (Nat.mul_le_mul_right _ hn)
          have : (Sort.putCells id 0 (flatK encV k l'.toArray) vs).getD (i * k + j) undef = q := by
            simp only [Sort.putCells, Array.getD, Array.size_mapIdx, hltv, dif_pos, Array.getInternal_eq_getElem, Array.getElem_mapIdx]
            rw [if_pos (by simp [hlm]; exact hlt)]
            rw [Nat.sub_zero, id, get_flatK _ _ _ _ (by simp [hlm]; exact hlt)]
            have e1 : (i * k + j) / k = i := by rw [Nat.add_comm, Nat.add_mul_div_right _ _ (by omega), Nat.div_eq_of_lt hj, Nat.zero_add]
            have e2 : (i * k + j) % k = j := by rw [Nat.add_comm, Nat.add_mul_mod_self_right, Nat.mod_eq_of_lt hj]
            rw [e1, e2]
            have e3 : l'.toArray[i]! = l'.getD i default := by
              have : i < l'.length := by omega
              simp [List.getD, this]
            rw [e3]
            have hj2 := (List.getElem?_eq_some_iff.1 hq)
            obtain ⟨h3, h4⟩ := hj2
            rw [getElem!_pos (encV (l'.getD i default)) j h3, h4]
          rw [this]; exact .val q
      · have hltv : i < vs.size := by simpa [Sort.putCells] using hi'
        simp only [Sort.putCells, Array.getD, Array.size_mapIdx, hltv, dif_pos, Array.getInternal_eq_getElem, Array.getElem_mapIdx]
        split
        · rename_i hc
          have hf : i - 0 < (flatK encV k l'.toArray).size := by
            have := hc.2
            simp only [Nat.zero_add, Nat.sub_zero] at this ⊢
            exact this
          have k0 : 0 < k := by rcases Nat.eq_zero_or_pos k with h | h; · subst h; simp at hf
                                · exact h
          rw [id, get_flatK _ _ _ _ (by simpa using hf)]
          have hm : (i - 0) % k < (encV l'.toArray[(i - 0) / k]!).length := by rw [hk]; exact Nat.mod_lt _ k0
          rw [getElem!_pos (encV l'.toArray[(i - 0) / k]!) ((i - 0) % k) hm]
          exact h1 _ _ (List.getElem_mem hm)
        · have := hone i hltv
          simpa [Array.getD, hltv] using this
end
theorem Zfw{α β:Type}[Inhabited α][Inhabited β](f:α->β)(d:Array α){i:Nat}(hi:i<d.size):(d.map f)[i]! = f d[i]!:=by
 rw[getElem!_pos (d.map f) i (by simpa using hi),getElem!_pos d i hi,Array.getElem_map]
theorem Z9k{d:Array (List UInt8)}:flatK (fun s=>[Proofs.encStr s]) 1 d=d.map Proofs.encStr:=by
 apply Array.ext
 ·simp[flatK]
 intro i h1 h2;have hi:i<d.size:=by simpa using h2
 simp[flatK,Nat.div_one,Nat.mod_one,hi]
theorem Zt2{w:World}{b:Nat}{d:Array (List UInt8)}:putRow Proofs.encStr w b 0 d=putRowK (fun s=>[Proofs.encStr s]) 1 w b 0 d:=by
 unfold putRowK putRow;rw[Z9k];congr 1;funext c;unfold Sort.putCells;congr 1;funext i x;simp only[Array.size_map];split
 ·rename_i h;have hi:i-0<d.size:=by omega
  exact(Zfw Proofs.encStr d hi).symm
 rfl
section
variable {P:Program} {ρ:Ren}
theorem AC.sortStr(L:Proofs.Lays.n190 P ρ)(hcall:∀(vals:Array Value) (w:World),(callFunc (ρ.f 190) vals).run P w = .ok (.enter (ρ.f 190) vals) w)(l:List ByteArray)(hl:l.length<4611686018427387904) :
  AC P (ρ.f 190) [.own 0] [(0,.row 1 l.length fun i=>[.val (.string (l.getD i default))])] (.pv (.tup [])) [(0,.row 1 l.length fun i=>[.val (.string ((l.mergeSort fun x y=>!sLt y x).getD i default))])]:=by
 have hmap:((l.mergeSort fun x y=>!sLt y x).map fun s=>s.data.toList)=(l.map fun s:ByteArray=>s.data.toList).mergeSort fun x y=>decide (x<=y):=by
  refine List.map_mergeSort fun a _ b _=>?_
  rw[qt];simp only[Q2,Q0];rw[<-Bool.not_eq_true,Z5z];exact List.not_lt
 have key:=AC.inPlace (P:=P) (f:=ρ.f 190) (α:=List UInt8) 1 (fun s=>[Proofs.encStr s]) (fun _=>rfl) (fun x v hv=>by simp only[List.mem_singleton]at hv;subst hv;rfl) hcall
  (l.map fun s:ByteArray=>s.data.toList) ((l.mergeSort fun x y=>!sLt y x).map fun s=>s.data.toList) (by simp)
  (fun a cap w=>Proofs.Any.slices_Sort_string_none L a cap w)
  (fun b cap w hH hb=>by
   have hH':Holds Proofs.encStr w b 0 (l.map fun s:ByteArray=>s.data.toList).toArray:=by
    intro j hj;have:=hH j (by rw[Z9k];simpa using hj);rw[Z9k]at this;rw[Zfw Proofs.encStr _ hj]at this;exact this
   refine(Proofs.Any.slices_Sort_string L b 0 cap _ w hH' hb (by simpa using hl)).mono ?_
   rintro e w' ⟨rfl,n,os,rfl⟩
   refine⟨rfl,n,os,?_⟩;rw[hmap,Zt2]
   rfl)
 have e1:∀m:List ByteArray,(fun i=>((fun s=>[Proofs.encStr s]) ((m.map fun s:ByteArray=>s.data.toList).getD i default)).map PV.val)=fun i=>[PV.val (.string (m.getD i default))]:=by
  intro m;funext i
  by_cases hi:i<m.length
  ·simp[List.getD,hi,Proofs.encStr]
  ·simp[List.getD,hi,Proofs.encStr];rfl
 rw[e1,e1,List.length_map]at key;exact key
end
end Go.Abs
namespace Go.Abs
open Go.Proofs
set_option maxRecDepth 10000
theorem Zmw(l:List ByteArray)(hl:l.length<=8388608):AC Tryz.prog 58 [.own 0] [(0,rowL 1 cstr l)] (.pv (.tup [])) [(0,rowL 1 cstr (sortedS l))]:=by
 have:=AC.sortStr Tryz.sortStr Tryz.call58 l (by omega);unfold rowL;rw[Z28];exact this
section
variable {α:Type} [Inhabited α] {lt:α->α->Bool}
theorem Z0w{l k:List α}(h:l.length=k.length)(hg:∀i,i<l.length->l.getD i default=k.getD i default):l=k:=by
 apply List.ext_getElem h;intro i h1 h2;have:=hg i h1;simpa[List.getD,h1,h2]using this
def swp(l:List α)(i j:Nat):List α:=(l.set i (l.getD j default)).set j (l.getD i default)
theorem Z1s(l:List α)(i j:Nat):(swp l i j).length=l.length:=by unfold swp;simp
theorem Z4w{l:List α}{i j:Nat}(hi:i<l.length)(hj:j<l.length)(q:Nat):(swp l i j).getD q default=if q=j then l.getD i default else if q=i then l.getD j default else l.getD q default:=by
 unfold swp
 by_cases e:q=j
 ·subst e;rw[qK rfl];simp only[List.getD,List.getElem?_set,List.length_set,hj,if_true,Option.getD_some]
 rw[qJ e]
 by_cases e2:q=i
 ·subst e2;rw[qK rfl];simp only[List.getD,List.getElem?_set,List.length_set,hi,if_true,Option.getD_some,qJ (Ne.symm e)]
 rw[qJ e2];simp only[List.getD,List.getElem?_set,qJ (Ne.symm e),qJ (Ne.symm e2)]
def swpTo(l:List α)(a b k:Nat):List α:=(List.range l.length).map fun q=>if a<=q∧q<a+k then l.getD (b+(q-a)) default else if b<=q∧q<b+k then l.getD (a+(q-b)) default else l.getD q default
theorem Z1m(l:List α)(a b k:Nat):(swpTo l a b k).length=l.length:=by simp[swpTo]
theorem Z1l{l:List α}{a b k q:Nat}(h:q<l.length):(swpTo l a b k).getD q default=if a<=q∧q<a+k then l.getD (b+(q-a)) default else if b<=q∧q<b+k then l.getD (a+(q-b)) default else l.getD q default:=by
 unfold swpTo;simp only[List.getD,qx,List.getElem?_range h,Option.map_some,Option.getD_some]
theorem Zwp(l:List α)(a b:Nat):swpTo l a b 0=l:=Z0w (Z1m _ _ _ _) fun q hq=>by
 rw[Z1m]at hq;rw[Z1l hq,qJ (by omega),qJ (by omega)]
theorem Zwo{l:List α}{a b k:Nat}(hab:a+k<b)(hb:b+k<l.length):swp (swpTo l a b k) (a+k) (b+k)=swpTo l a b (k+1):=by
 have hl:=Z1m l a b k;refine Z0w (by rw[Z1s,Z1m,Z1m]) fun q hq=>?_
 rw[Z1s,hl]at hq;rw[Z4w (by omega) (by omega),Z1l (q:=q) hq,Z1l (q:=a+k) (by omega),Z1l (q:=b+k) hb,Z1l hq]
 by_cases e1:q=b+k
 ·subst e1;rw[qK rfl,qJ (by omega),qJ (by omega),qJ (by omega),qK (by omega)];congr 1;omega
 rw[qJ e1]
 by_cases e2:q=a+k
 ·subst e2;rw[qK rfl,qJ (by omega),qJ (by omega),qK (by omega)];congr 1;omega
 rw[qJ e2]
 by_cases h1:a<=q∧q<a+k
 ·rw[qK h1,qK (by omega)]
 rw[qJ h1]
 by_cases h2:b<=q∧q<b+k
 ·rw[qK h2,qJ (by omega),qK (by omega)]
 rw[qJ h2,qJ (by omega),qJ (by omega)]
def rot(l:List α)(a m b:Nat):List α:=(List.range l.length).map fun q=>if a<=q∧q<a+(b-m)then l.getD (m+(q-a)) default else if a+(b-m)<=q∧q<b then l.getD (a+(q-(a+(b-m)))) default else l.getD q default
theorem Z0f(l:List α)(a m b:Nat):(rot l a m b).length=l.length:=by simp[rot]
theorem Z08{l:List α}{a m b q:Nat}(h:q<l.length):(rot l a m b).getD q default=if a<=q∧q<a+(b-m)then l.getD (m+(q-a)) default else if a+(b-m)<=q∧q<b then l.getD (a+(q-(a+(b-m)))) default else l.getD q default:=by
 unfold rot;simp only[List.getD,qx,List.getElem?_range h,Option.map_some,Option.getD_some]
theorem Ztj{l:List α}{m i j:Nat}(hi:i<=m)(hj:m+j<=l.length)(h:j<i):rot (swpTo l (m-i) m j) (m-(i-j)) m (m+j)=rot l (m-i) m (m+j):=by
 have hl:=Z1m l (m-i) m j;refine Z0w (by rw[Z0f,Z0f,hl]) fun q hq=>?_
 rw[Z0f,hl]at hq;rw[Z08 (by omega),Z08 hq]
 by_cases h1:m-(i-j)<=q∧q<m-(i-j)+(m+j-m)
 ·rw[qK h1,Z1l (by omega),qJ (by omega),qK (by omega),qJ (by omega),qK (by omega)];congr 1;omega
 rw[qJ h1]
 by_cases h2:m-(i-j)+(m+j-m)<=q∧q<m+j
 ·rw[qK h2,Z1l (by omega),qJ (by omega),qJ (by omega),qJ (by omega),qK (by omega)];congr 1;omega
 rw[qJ h2,Z1l hq]
 by_cases h3:m-i<=q∧q<m-i+j
 ·rw[qK h3,qK (by omega)]
 rw[qJ h3,qJ (by omega),qJ (by omega),qJ (by omega)]
theorem Ztl{l:List α}{m i j:Nat}(hi:i<=m)(hj:m+j<=l.length)(h:i<j):rot (swpTo l (m-i) (m+j-i) i) (m-i) m (m+(j-i))=rot l (m-i) m (m+j):=by
 have hl:=Z1m l (m-i) (m+j-i) i;refine Z0w (by rw[Z0f,Z0f,hl]) fun q hq=>?_
 rw[Z0f,hl]at hq;rw[Z08 (by omega),Z08 hq]
 by_cases h1:m-i<=q∧q<m-i+(m+(j-i)-m)
 ·rw[qK h1,Z1l (by omega),qJ (by omega),qJ (by omega),qK (by omega)]
 rw[qJ h1]
 by_cases h2:m-i+(m+(j-i)-m)<=q∧q<m+(j-i)
 ·rw[qK h2,Z1l (by omega),qK (by omega),qK (by omega)];congr 1;omega
 rw[qJ h2,Z1l hq]
 by_cases h3:m+j-i<=q∧q<m+j-i+i
 ·rw[qJ (by omega),qK h3,qJ (by omega),qK (by omega)];congr 1;omega
 rw[qJ (by omega),qJ h3,qJ (by omega),qJ (by omega)]
theorem Zti{l:List α}{m i:Nat}(hi:i<=m)(hj:m+i<=l.length):swpTo l (m-i) m i=rot l (m-i) m (m+i):=by
 refine Z0w (by rw[Z0f,Z1m]) fun q hq=>?_
 rw[Z1m]at hq;rw[Z08 hq,Z1l hq]
 by_cases h1:m-i<=q∧q<m-i+i
 ·rw[qK h1,qK (by omega)]
 rw[qJ h1]
 by_cases h2:m<=q∧q<m+i
 ·rw[qK h2,qJ (by omega),qK (by omega)];congr 1;omega
 rw[qJ h2,qJ (by omega),qJ (by omega)]
end
section
variable {α:Type} [Inhabited α] {lt:α->α->Bool}
def seg(l:List α)(i j:Nat):List α:=(l.take j).drop i
theorem Z0i{l:List α}{i j:Nat}(hj:j<=l.length):(seg l i j).length=j-i:=by unfold seg;rw[List.length_drop,qq];omega
theorem Z25{l:List α}{i j q:Nat}(hj:j<=l.length)(hq:i+q<j):(seg l i j).getD q default=l.getD (i+q) default:=by
 unfold seg;simp only[List.getD,qA];rw[List.getElem?_take_of_lt hq]
theorem Z2p{l:List α}{i j k:Nat}(hij:i<=j)(hjk:j<=k)(hk:k<=l.length):seg l i j++seg l j k=seg l i k:=by
 refine Z0w (by rw[ql,Z0i (by omega),Z0i hk,Z0i hk];omega) fun q hq=>?_
 rw[ql,Z0i (by omega),Z0i hk]at hq;rw[Z25 hk (by omega)]
 by_cases h:q<j-i
 ·have:(seg l i j++seg l j k).getD q default=(seg l i j).getD q default:=by
   simp only[List.getD];rw[qr (by rw[Z0i (by omega)];exact h)]
  rw[this,Z25 (by omega) (by omega)]
 have:(seg l i j++seg l j k).getD q default=(seg l j k).getD (q-(j-i)) default:=by
  simp only[List.getD];rw[qv (by rw[Z0i (by omega)];omega),Z0i (by omega)]
 rw[this,Z25 hk (by omega)];congr 1;omega
theorem Z7p{l:List α}{i j:Nat}(hj:j<=l.length){x:α}(h:x∈seg l i j):∃q,i<=q∧q<j∧l.getD q default=x:=by
 obtain⟨q,hq,rfl⟩:=qp h;have hq2:=hq;rw[Z0i hj]at hq2;refine⟨i+q,by omega,by omega,?_⟩;rw[<-Z25 hj (by omega)];simp[List.getD,hq]
theorem Z3r{l k:List α}{i j i' j':Nat}(hj:j<=l.length)(hj':j'<=k.length)(hn:j-i=j'-i')(h:∀q,q<j-i->l.getD (i+q) default=k.getD (i'+q) default):seg l i j=seg k i' j':=by
 refine Z0w (by rw[Z0i hj,Z0i hj',hn]) fun q hq=>?_
 rw[Z0i hj]at hq;rw[Z25 hj (by omega),Z25 hj' (by omega)];exact h q hq
def srtO(lt:α->α->Bool)(l:List α)(i j:Nat):Prop:=∀p q,i<=p->p<q->q<j->lt (l.getD q default) (l.getD p default)=false
theorem Zi9{l:List α}{i j:Nat}(hj:j<=l.length)(h:srtO lt l i j):SrtO lt (seg l i j):=by
 unfold SrtO;rw[List.pairwise_iff_getElem];intro p q hp hq hpq;rw[Z0i hj]at hp hq;have e1:=Z25 hj (i:=i) (q:=p) (by omega);have e2:=Z25 hj (i:=i) (q:=q) (by omega);have g1:(seg l i j)[p]=(seg l i j).getD p default:=by simp[List.getD,Z0i hj,hp]
 have g2:(seg l i j)[q]=(seg l i j).getD q default:=by simp[List.getD,Z0i hj,hq]
 rw[g1,g2,e1,e2];exact h _ _ (by omega) (by omega) (by omega)
def srtSeg(lt:α->α->Bool)(l:List α)(a b:Nat):List α:=l.take a++isortR lt (seg l a b)++l.drop b
theorem Z0y{l:List α}{a b:Nat}(hab:a<=b)(hb:b<=l.length):(srtSeg lt l a b).length=l.length:=by
 unfold srtSeg;rw[ql,ql,Z4l,Z0i hb,qq,List.length_drop];omega
theorem Z0x{l:List α}{a b:Nat}(hab:a<=b)(hb:b<=l.length)(q:Nat):(srtSeg lt l a b).getD q default=if q<a then l.getD q default else if q<b then(isortR lt (seg l a b)).getD (q-a) default else l.getD q default:=by
 have h1:(l.take a).length=a:=by rw[qq];omega
 have h2:(isortR lt (seg l a b)).length=b-a:=by rw[Z4l,Z0i hb]
 unfold srtSeg;simp only[List.getD]
 by_cases e1:q<a
 ·rw[qK e1,List.append_assoc,qr (by omega),List.getElem?_take_of_lt e1]
 rw[qJ e1]
 by_cases e2:q<b
 ·rw[qK e2,qr (by rw[ql];omega),qv (by omega),h1]
 rw[qJ e2,qv (by rw[ql];omega),ql,qA];congr 2;omega
theorem Zun{l:List α}{a b:Nat}(hab:a<=b)(hb:b<=l.length):seg (srtSeg lt l a b) a b=isortR lt (seg l a b):=by
 have hl:=Z0y (lt:=lt) hab hb;refine Z0w (by rw[Z0i (by omega),Z4l,Z0i hb]) fun q hq=>?_
 rw[Z0i (by omega)]at hq;rw[Z25 (by omega) (by omega),Z0x hab hb,qJ (by omega),qK (by omega)];congr 1;omega
theorem Z1k(hw:SWO lt){l:List α}{a b:Nat}(hab:a<=b)(hb:b<=l.length)(h:srtO lt l a b):srtSeg lt l a b=l:=by
 unfold srtSeg;rw[Zfe hw (Zi9 hb h)];refine Z0w (by rw[ql,ql,Z0i hb,qq,List.length_drop];omega) fun q hq=>?_
 have:=Z0x (lt:=lt) hab hb q;unfold srtSeg at this;rw[Zfe hw (Zi9 hb h)]at this;rw[this]
 by_cases e1:q<a
 ·rw[qK e1]
 rw[qJ e1]
 by_cases e2:q<b
 ·rw[qK e2,Z25 hb (by omega)];congr 1;omega
 rw[qJ e2]
theorem Zbd(hw:SWO lt){l:List α}{a m b s e mid:Nat}(has:a<=s)(hsm:s<=m)(hme:m<=e)(heb:e<=b)(hb:b<=l.length)(hmid:mid=s+(e-m))(hL:srtO lt l a m)(hR:srtO lt l m b)
  (h1:∀i j,a<=i->i<s->e<=j->j<b->lt (l.getD j default) (l.getD i default)=false) (h2:∀i j,s<=i->i<m->m<=j->j<e->lt (l.getD j default) (l.getD i default)=true) :
  srtSeg lt (srtSeg lt (rot l s m e) a mid) mid b=srtSeg lt l a b:=by
 have hrl:=Z0f l s m e;have e1:seg (rot l s m e) a mid=seg l a s++seg l m e:=by
  rw[<-Z2p (l:=rot l s m e) (i:=a) (j:=s) (k:=mid) has (by omega) (by omega)];congr 1
  ·refine Z3r (by omega) (by omega) rfl fun q hq=>?_
   rw[Z08 (by omega),qJ (by omega),qJ (by omega)]
  refine Z3r (by omega) (by omega) (by omega) fun q hq=>?_
  rw[Z08 (by omega),qK (by omega)];congr 1;omega
 have e2:seg (rot l s m e) mid b=seg l s m++seg l e b:=by
  rw[<-Z2p (l:=rot l s m e) (i:=mid) (j:=e) (k:=b) (by omega) heb (by omega)];congr 1
  ·refine Z3r (by omega) (by omega) (by omega) fun q hq=>?_
   rw[Z08 (by omega),qJ (by omega),qK (by omega)];congr 1;omega
  refine Z3r (by omega) (by omega) rfl fun q hq=>?_
  rw[Z08 (by omega),qJ (by omega),qJ (by omega)]
 have hst:Stb lt (seg l a b) (isortR lt (seg l a s++seg l m e)++isortR lt (seg l s m++seg l e b)):=by
  have:=Zuq hw (Z1e hw (seg l a s++seg l m e)) (Z1e hw (seg l s m++seg l e b)) ?_ ?_
  ·rw[Z2p has hsm (by omega),Z2p hme heb hb,Z2p (by omega) (by omega) hb]at this;exact this
  ·intro x hx y hy;rcases qo.1 hx with hx|hx<;>rcases qo.1 hy with hy|hy<;>obtain⟨p,p1,p2,rfl⟩:=Z7p (by omega) hx<;>obtain⟨q,q1,q2,rfl⟩:=Z7p (by omega) hy
   ·exact hL p q p1 (by omega) (by omega)
   ·exact h1 p q p1 p2 q1 q2
   ·exact hw.asymm _ _ (h2 q p q1 q2 p1 p2)
   exact hR p q (by omega) (by omega) (by omega)
  intro x hx y hy;obtain⟨p,p1,p2,rfl⟩:=Z7p (by omega) hx;obtain⟨q,q1,q2,rfl⟩:=Z7p (by omega) hy;exact h2 p q p1 p2 q1 q2
 have hres:=hst.eq hw;have hl1:=Z0y (lt:=lt) (l:=rot l s m e) (a:=a) (b:=mid) (by omega) (by omega);have e3:seg (srtSeg lt (rot l s m e) a mid) mid b=seg l s m++seg l e b:=by
  rw[<-e2];refine Z3r (by omega) (by omega) rfl fun q hq=>?_
  rw[Z0x (by omega) (by omega),qJ (by omega),qJ (by omega)]
 refine Z0w (by rw[Z0y (by omega) (by omega),Z0y (by omega) hb];omega) fun q hq=>?_
 rw[Z0y (by omega) (by omega),hl1,hrl]at hq;rw[Z0x (by omega) (by omega),Z0x (by omega) hb,Z0x (by omega) (by omega),e3,e1,<-hres];have n1:(isortR lt (seg l a s++seg l m e)).length=mid-a:=by rw[Z4l,ql,Z0i (by omega),Z0i (by omega)];omega
 by_cases c1:q<a
 ·rw[qK (by omega),qK c1,qK c1,Z08 hq,qJ (by omega),qJ (by omega)]
 by_cases c2:q<mid
 ·rw[qK c2,qJ c1,qK c2,qJ c1,qK (by omega)];simp only[List.getD];rw[qr (by omega)]
 by_cases c3:q<b
 ·rw[qJ c2,qK c3,qJ c1,qK c3];simp only[List.getD];rw[qv (by omega),n1];congr 2;omega
 rw[qJ c2,qJ c3,qJ c1,qJ c2,qJ c1,qJ c3,Z08 hq,qJ (by omega),qJ (by omega)]
end
section
variable {α:Type} [Inhabited α] {lt:α->α->Bool}
theorem Z2q(hw:SWO lt){l:List α}{i j:Nat}(h:srtO lt l i j){p q:Nat}(hp:i<=p)(hpq:p<=q)(hq:q<j):lt (l.getD q default) (l.getD p default)=false:=by
 rcases Nat.lt_or_ge p q with e|e
 ·exact h p q hp e hq
 rw[show q=p from by omega];exact hw.irrefl _
def symLo(a m b:Nat):Nat:=if(a+b) / 2<m then(a+b) / 2+m-b else a
def symHi(a m b:Nat):Nat:=if(a+b) / 2<m then(a+b) / 2 else m
theorem Zbc{a m b:Nat}(ham:a<m)(hmb:m<b):a<=symLo a m b∧symLo a m b<=symHi a m b∧symHi a m b<=m∧(∀c,symLo a m b<=c->c<symHi a m b->m<=(a+b) / 2+m-1-c∧(a+b) / 2+m-1-c<b∧c<(a+b) / 2+m)∧∀s,symLo a m b<=s->s<=symHi a m b->m<=(a+b) / 2+m-s∧(a+b) / 2+m-s<=b:=by
 unfold symLo symHi;split
 ·exact⟨by omega,by omega,by omega,fun c h1 h2=>by omega,fun s h1 h2=>by omega⟩
 exact⟨by omega,by omega,by omega,fun c h1 h2=>by omega,fun s h1 h2=>by omega⟩
def symQ(lt:α->α->Bool)(l:List α)(a m b c:Nat):Bool:=lt (l.getD ((a+b) / 2+m-1-c) default) (l.getD c default)
theorem Zil(hw:SWO lt){l:List α}{a m b:Nat}(ham:a<m)(hmb:m<b)(hL:srtO lt l a m)(hR:srtO lt l m b){c c':Nat}(h:symQ lt l a m b c=false)(h1:symLo a m b<=c')(h2:c'<=c)(h3:c<symHi a m b):symQ lt l a m b c'=false:=by
 obtain⟨b1,b2,b3,b4,_⟩:=Zbc ham hmb;have b5:=b4 c (by omega) h3;have b6:=b4 c' h1 (by omega);unfold symQ at h ⊢;have e1:=Z2q hw hR (p:=(a+b) / 2+m-1-c) (q:=(a+b) / 2+m-1-c') (by omega) (by omega) (by omega);have e2:=Z2q hw hL (p:=c') (q:=c) (by omega) h2 (by omega);exact hw.trans _ _ _ (hw.trans _ _ _ e1 h) e2
theorem Zwr(hw:SWO lt){l:List α}{a m b:Nat}(ham:a<m)(hmb:m<b)(hL:srtO lt l a m)(hR:srtO lt l m b){c c':Nat}(h:symQ lt l a m b c=true)(h1:symLo a m b<=c)(h2:c<=c')(h3:c'<symHi a m b):symQ lt l a m b c'=true:=by
 cases e:symQ lt l a m b c' with
 |true=>rfl
 |false=>rw[Zil hw ham hmb hL hR e h1 h2 h3]at h;cases h
theorem Zws(hw:SWO lt){l:List α}{a m b s:Nat}(ham:a<m)(hmb:m<b)(hb:b<=l.length)(hL:srtO lt l a m)(hR:srtO lt l m b)(hlo:symLo a m b<=s)(hhi:s<=symHi a m b)
  (h1:∀c,symLo a m b<=c->c<s->symQ lt l a m b c=false) (h2:∀c,s<=c->c<symHi a m b->symQ lt l a m b c=true) :
  srtSeg lt (srtSeg lt (rot l s m ((a+b) / 2+m-s)) a ((a+b) / 2)) ((a+b) / 2) b=srtSeg lt l a b:=by
 obtain⟨b1,b2,b3,b4,b5⟩:=Zbc ham hmb;have b6:=b5 s hlo hhi;have b7:symLo a m b=(if(a+b) / 2<m then(a+b) / 2+m-b else a):=rfl;have b8:symHi a m b=(if(a+b) / 2<m then(a+b) / 2 else m):=rfl;have hm1:a<=(a+b) / 2∧(a+b) / 2<=b:=by omega
 generalize hmid:(a+b) / 2=mid at *;refine Zbd hw (by omega) (by omega) b6.1 b6.2 hb (by omega) hL hR (fun i j i1 i2 j1 j2=>?_) (fun i j i1 i2 j1 j2=>?_)
 ·by_cases e:symLo a m b<s
  ·have q:=h1 (s-1) (by omega) (by omega);unfold symQ at q;rw[hmid,show mid+m-1-(s-1)=mid+m-s from by omega]at q;have e1:=Z2q hw hR (p:=mid+m-s) (q:=j) b6.1 j1 j2;have e2:=Z2q hw hL (p:=i) (q:=s-1) i1 (by omega) (by omega);exact hw.trans _ _ _ (hw.trans _ _ _ e1 q) e2
  exfalso
  split at b7<;>omega
 by_cases e:s<symHi a m b
 ·have q:=h2 s (qL _) e;unfold symQ at q;rw[hmid]at q;have b9:=b4 s hlo e;have e1:=Z2q hw hR (p:=j) (q:=mid+m-1-s) j1 (by omega) (by omega);have e2:=Z2q hw hL (p:=s) (q:=i) (by omega) i1 i2;exact hw.lt_le (hw.le_lt e1 q) e2
 exfalso
 split at b8<;>omega
theorem Zwt(hw:SWO lt){l:List α}{a b i:Nat}(hi:a+1<=i)(hib:i<=b)(hb:b<=l.length)(hR:srtO lt l (a+1) b)(h1:∀q,a+1<=q->q<i->lt (l.getD q default) (l.getD a default)=true)(h2:∀q,i<=q->q<b->lt (l.getD q default) (l.getD a default)=false) :
  srtSeg lt l a b=rot l a (a+1) i:=by
 have hrl:=Z0f l a (a+1) i;have hL:srtO lt l a (a+1):=fun p q p1 p2 p3=>by omega
 rw[<-Zbd hw (s:=a) (m:=a+1) (e:=i) (mid:=a+(i-(a+1))) (qL _) (by omega) hi hib hb rfl hL hR (fun p q p1 p2=>by omega) (fun p q p1 p2 q1 q2=>by rw[show p=a from by omega];exact h1 q q1 q2)];have s1:srtSeg lt (rot l a (a+1) i) a (a+(i-(a+1)))=rot l a (a+1) i:=Z1k hw (by omega) (by omega) fun p q p1 p2 p3=>by
  rw[Z08 (by omega),Z08 (by omega),qK (by omega),qK (by omega)];exact hR _ _ (by omega) (by omega) (by omega)
 rw[s1];refine Z1k hw (by omega) (by omega) fun p q p1 p2 p3=>?_
 rw[Z08 (q:=q) (by omega),qJ (by omega),qJ (by omega),Z08 (q:=p) (by omega),qJ (by omega)]
 by_cases e:p<i
 ·rw[qK (by omega),show a+(p-(a+(i-(a+1))))=a from by omega];exact h2 q (by omega) p3
 rw[qJ (by omega)];exact hR p q (by omega) p2 p3
theorem Zim(hw:SWO lt){l:List α}{a m i:Nat}(hi:a<=i)(him:i<=m)(hb:m+1<=l.length)(hL:srtO lt l a m)(h1:∀q,a<=q->q<i->lt (l.getD m default) (l.getD q default)=false)(h2:∀q,i<=q->q<m->lt (l.getD m default) (l.getD q default)=true) :
  srtSeg lt l a (m+1)=rot l i m (m+1):=by
 have hrl:=Z0f l i m (m+1);have hR:srtO lt l m (m+1):=fun p q p1 p2 p3=>by omega
 rw[<-Zbd hw (s:=i) (m:=m) (e:=m+1) (mid:=i+1) hi him (by omega) (qL _) hb (by omega) hL hR (fun p q p1 p2 q1 q2=>by omega) (fun p q p1 p2 q1 q2=>by rw[show q=m from by omega];exact h2 p p1 p2)];have s1:srtSeg lt (rot l i m (m+1)) a (i+1)=rot l i m (m+1):=Z1k hw (by omega) (by omega) fun p q p1 p2 p3=>by
  rw[Z08 (q:=p) (by omega),qJ (by omega),qJ (by omega),Z08 (q:=q) (by omega)]
  by_cases e:q=i
  ·rw[qK (by omega),show m+(q-i)=m from by omega];exact h1 p p1 (by omega)
  rw[qJ (by omega),qJ (by omega)];exact hL p q p1 p2 (by omega)
 rw[s1];refine Z1k hw (by omega) (by omega) fun p q p1 p2 p3=>?_
 rw[Z08 (q:=p) (by omega),qJ (by omega),qK (by omega),Z08 (q:=q) (by omega),qJ (by omega),qK (by omega)];exact hL _ _ (by omega) (by omega) (by omega)
end
section
variable {α:Type} [Inhabited α] {lt:α->α->Bool}
theorem Z64(hw:SWO lt){l:List α}{a b:Nat}(hab:a<=b)(hb:b<=l.length):srtO lt (srtSeg lt l a b) a b:=by
 have hl:=Z0y (lt:=lt) hab hb;intro p q p1 p2 p3;rw[Z0x hab hb,Z0x hab hb,qJ (by omega),qK p3,qJ (by omega),qK (by omega)];have h:=(Z1e hw (seg l a b)).1;unfold SrtO at h;rw[List.pairwise_iff_getElem]at h;have n:(isortR lt (seg l a b)).length=b-a:=by rw[Z4l,Z0i hb]
 have:=h (p-a) (q-a) (by omega) (by omega) (by omega);simpa[List.getD,n,show p-a<b-a by omega,show q-a<b-a by omega]using this
theorem Zb9{l:List α}{a b i j:Nat}(h:srtO lt l a b)(hi:a<=i)(hj:j<=b):srtO lt l i j:=fun p q p1 p2 p3=>h p q (by omega) p2 (by omega)
theorem Z63(hw:SWO lt){l:List α}{a b i j:Nat}(hai:a<=i)(hij:i<=j)(hjb:j<=b)(hb:b<=l.length):srtSeg lt (srtSeg lt l i j) a b=srtSeg lt l a b:=by
 have hl:=Z0y (lt:=lt) hij (show j<=l.length by omega);have e:seg (srtSeg lt l i j) a b=seg l a i++(isortR lt (seg l i j)++seg l j b):=by
  rw[<-Z2p hai (show i<=b by omega) (by omega),<-Z2p hij hjb (by omega),Zun hij (by omega)];congr 1
  ·refine Z3r (by omega) (by omega) rfl fun q hq=>?_
   rw[Z0x hij (by omega),qK (by omega)]
  congr 1;refine Z3r (by omega) hb rfl fun q hq=>?_
  rw[Z0x hij (by omega),qJ (by omega),qJ (by omega)]
 have hs:isortR lt (seg (srtSeg lt l i j) a b)=isortR lt (seg l a b):=by
  refine Stb.eq hw ⟨(Z1e hw _).1,fun z=>?_⟩;rw[(Z1e hw _).2 z,e,<-Z2p hai (show i<=b by omega) hb,<-Z2p hij hjb hb];simp only[List.filter_append];rw[(Z1e hw (seg l i j)).2 z]
 refine Z0w (by rw[Z0y (by omega) (by omega),Z0y (by omega) hb,hl]) fun q hq=>?_
 rw[Z0x (by omega) (by omega),Z0x (by omega) hb,hs]
 by_cases c1:q<a
 ·rw[qK c1,qK c1,Z0x hij (by omega),qK (by omega)]
 rw[qJ c1,qJ c1]
 by_cases c2:q<b
 ·rw[qK c2,qK c2]
 rw[qJ c2,qJ c2,Z0x hij (by omega),qJ (by omega),qJ (by omega)]
theorem Z3t{l:List α}{i j a b:Nat}(hij:i<=j)(hj:j<=l.length)(h:b<=i∨j<=a)(hs:srtO lt l a b):srtO lt (srtSeg lt l i j) a b:=fun p q p1 p2 p3=>by
 have e:∀x,a<=x->x<b->(srtSeg lt l i j).getD x default=l.getD x default:=fun x h1 h2=>by
  rw[Z0x hij hj]
  by_cases c1:x<i
  ·rw[qK c1]
  rw[qJ c1,qJ (by omega)]
 rw[e p p1 (by omega),e q (by omega) p3];exact hs p q p1 p2 p3
theorem Zh9{l:List α}{i j:Nat}(hj:0<j)(hji:j<=i)(hi:i<l.length):swp (rot l j i (i+1)) j (j-1)=rot l (j-1) i (i+1):=by
 have hl:=Z0f l j i (i+1);refine Z0w (by rw[Z1s,hl,Z0f]) fun q hq=>?_
 rw[Z1s,hl]at hq;rw[Z4w (by omega) (by omega),Z08 (q:=j) (by omega),Z08 (q:=j-1) (by omega),Z08 (q:=q) (by omega),Z08 (q:=q) (by omega)]
 by_cases e1:q=j-1
 ·subst e1;rw[qK rfl,qK (by omega),qK (by omega)];congr 1;omega
 rw[qJ e1]
 by_cases e2:q=j
 ·subst e2;rw[qK rfl,qJ (by omega),qJ (by omega),qJ (by omega),qK (by omega)];congr 1;omega
 rw[qJ e2,qJ (by omega)]
 by_cases c:j+(i+1-i)<=q∧q<i+1
 ·rw[qK c,qJ (by omega),qK (by omega)];congr 1;omega
 rw[qJ c,qJ (by omega),qJ (by omega)]
theorem Zhb{l:List α}{i:Nat}(hi:i<l.length):rot l i i (i+1)=l:=by
 refine Z0w (Z0f _ _ _ _) fun q hq=>?_
 rw[Z0f]at hq;rw[Z08 hq]
 by_cases c:i<=q∧q<i+(i+1-i)
 ·rw[qK c];congr 1;omega
 rw[qJ c,qJ (by omega)]
theorem Zf9(hw:SWO lt){l:List α}{a i j:Nat}(haj:a<=j)(hji:j<=i)(hi:i<l.length)(h1:∀q,j<=q->q<i->lt (l.getD i default) ((srtSeg lt l a i).getD q default)=true)
  (h2:a<j->lt (l.getD i default) ((srtSeg lt l a i).getD (j-1) default)=false):rot (srtSeg lt l a i) j i (i+1)=srtSeg lt l a (i+1):=by
 have hl:=Z0y (lt:=lt) (l:=l) (a:=a) (b:=i) (by omega) (by omega);have hs:=Z64 hw (l:=l) (a:=a) (b:=i) (by omega) (by omega);have hx:(srtSeg lt l a i).getD i default=l.getD i default:=by rw[Z0x (by omega) (by omega),qJ (by omega),qJ (by omega)]
 rw[<-Z63 hw (qL a) (show a<=i by omega) (Nat.le_succ i) (show i+1<=l.length by omega)];refine(Zim hw haj hji (by omega) hs (fun q q1 q2=>?_) (fun q q1 q2=>by rw[hx];exact h1 q q1 q2)).symm;rw[hx];exact hw.trans _ _ _ (h2 (by omega)) (Z2q hw hs (p:=q) (q:=j-1) q1 (by omega) (by omega))
theorem Zuo(hw:SWO lt){l cur:List α}(hl:cur.length=l.length)(h1:srtSeg lt cur 0 cur.length=srtSeg lt l 0 l.length)(h2:srtO lt cur 0 cur.length):cur=isortR lt l:=by
 have e:∀k:List α,srtSeg lt k 0 k.length=isortR lt k:=fun k=>by
  unfold srtSeg seg;simp
 rw[<-e l,<-h1,Z1k hw (qe _) (qL _) h2]
end
section
variable {α:Type} [Inhabited α] {lt:α->α->Bool}
inductive DoneB (lt:α->α->Bool) (l:List α) (B:Nat):Nat->Prop where
 |zero:DoneB lt l B 0
 |step (a:Nat) (h:DoneB lt l B a) (hs:srtO lt l a (a+B)):DoneB lt l B (a+B)
inductive RestB (lt:α->α->Bool) (l:List α) (B n:Nat):Nat->Prop where
 |last (a:Nat) (h:n<=a+B) (hs:srtO lt l a n):RestB lt l B n a
 |step (a:Nat) (hs:srtO lt l a (a+B)) (h:RestB lt l B n (a+B)):RestB lt l B n a
theorem DoneB.out{l:List α}{B a i j:Nat}(h:DoneB lt l B a)(hij:i<=j)(hj:j<=l.length)(hi:a<=i):DoneB lt (srtSeg lt l i j) B a:=by
 induction h with
 |zero=>exact .zero
 |step a h hs ih=>exact .step a (ih (by omega)) (Z3t hij hj (.inl hi) hs)
theorem RestB.out{l:List α}{B n a i j:Nat}(h:RestB lt l B n a)(hij:i<=j)(hj:j<=l.length)(ha:j<=a):RestB lt (srtSeg lt l i j) B n a:=by
 induction h with
 |last a h hs=>exact .last a h (Z3t hij hj (.inr ha) hs)
 |step a hs h ih=>exact .step a (Z3t hij hj (.inr ha) hs) (ih (by omega))
theorem DoneB.rest{l:List α}{B n a:Nat}(h:DoneB lt l B a)(hr:RestB lt l B n a):RestB lt l B n 0:=by
 induction h with
 |zero=>exact hr
 |step a h hs ih=>exact ih (.step a hs hr)
theorem RestB.whole{l:List α}{B n:Nat}(h:RestB lt l B n 0)(hB:n<=B):srtO lt l 0 n:=by
 cases h with
 |last _ _ hs=>exact hs
 |step _ hs _=>exact Zb9 hs (qL _) (by omega)
theorem Zod(hw:SWO lt){l:List α}{B n a:Nat}(hB:0<B)(hn:n<=l.length)(hab:a+2*B<=n)(hd:DoneB lt l (2*B) a)(hr:RestB lt l B n a) :
  srtO lt l a (a+B)∧srtO lt l (a+B) (a+2*B)∧DoneB lt (srtSeg lt l a (a+2*B)) (2*B) (a+2*B)∧RestB lt (srtSeg lt l a (a+2*B)) B n (a+2*B):=by
 have e2:a+B+B=a+2*B:=by omega
 have key:srtO lt l a (a+B)∧srtO lt l (a+B) (a+2*B)∧RestB lt l B n (a+2*B):=by
  cases hr with
  |last _ h _=>omega
  |step _ hs h=>
   cases h with
   |last _ h hs2=>
    have:n=a+2*B:=by omega
    subst this;exact⟨hs,hs2,.last _ (by omega) fun p q p1 p2 p3=>by omega⟩
   |step _ hs2 h2=>rw[e2]at hs2 h2;exact⟨hs,hs2,h2⟩
 obtain⟨k1,k2,k3⟩:=key;exact⟨k1,k2,.step a (hd.out (by omega) (by omega) (qL _)) (Z64 hw (by omega) (by omega)),k3.out (by omega) (by omega) (qL _)⟩
theorem Z97(hw:SWO lt){l:List α}{B n a:Nat}(hn:n<=l.length)(hab:n<a+2*B)(hm:a+B<n)(hd:DoneB lt l (2*B) a)(hr:RestB lt l B n a) :
  srtO lt l a (a+B)∧srtO lt l (a+B) n∧RestB lt (srtSeg lt l a n) (2*B) n 0:=by
 have key:srtO lt l a (a+B)∧srtO lt l (a+B) n:=by
  cases hr with
  |last _ h _=>omega
  |step _ hs h=>
   cases h with
   |last _ h hs2=>exact⟨hs,hs2⟩
   |step _ hs2 h2=>exact⟨hs,Zb9 hs2 (qL _) (by omega)⟩
 exact⟨key.1,key.2,(hd.out (by omega) hn (qL _)).rest (.last a (by omega) (Z64 hw (by omega) hn))⟩
theorem Zoa{l:List α}{B n a:Nat}(hm:n<=a+B)(hd:DoneB lt l (2*B) a)(hr:RestB lt l B n a):RestB lt l (2*B) n 0:=by
 refine hd.rest (.last a (by omega) ?_);cases hr with
 |last _ _ hs=>exact hs
 |step _ hs _=>exact Zb9 hs (qL _) hm
theorem Zob(hw:SWO lt){l:List α}{B a:Nat}(hb:a+B<=l.length)(hd:DoneB lt l B a):DoneB lt (srtSeg lt l a (a+B)) B (a+B):=
 .step a (hd.out (by omega) hb (qL _)) (Z64 hw (by omega) hb)
theorem Zoc(hw:SWO lt){l:List α}{B n a:Nat}(han:a<=n)(hn:n<=l.length)(hb:n<a+B)(hd:DoneB lt l B a):RestB lt (srtSeg lt l a n) B n 0:=
 (hd.out han hn (qL _)).rest (.last a (by omega) (Z64 hw han hn))
end
theorem Z65{l:List Write}{i j:Nat}(hi:i<l.length)(hj:j<l.length)(q:Nat):PSubs (updAt (updAt (fun q=>cWrite (l.getD q default)) i 0 (cWrite (l.getD j default))) j 0 (cWrite (l.getD i default)) q) (cWrite ((swp l i j).getD q default)):=by
 rw[Z4w hi hj]
 by_cases e:q=j
 ·subst e;rw[qK rfl,Z19]
  by_cases e2:q=i
  ·subst e2;rw[Z19];exact PSubs.rfl
  rw[Z11 e2];exact PSubs.rfl
 rw[qJ e,Z11 e]
 by_cases e2:q=i
 ·subst e2;rw[qK rfl,Z19];exact PSubs.rfl
 rw[qJ e2,Z11 e2];exact PSubs.rfl
set_option maxHeartbeats 1000000 in
theorem Z8m(l:List Write)(a b n:Nat)(isB:Bool)(D:List PV->Prop)(gb:List PV->Bool)(gi:List PV->Int)(hl:l.length<=1048576)(hab:a+n<=b)(hb:b+n<=l.length) :
  AC Tryz.prog 216 [.own 900000,.pv (vint a),.pv (vint b),.pv (vint n),.clo D isB gb gi] [(900000,rowL 10 cWrite l)] (.pv (.tup [])) [(900000,rowL 10 cWrite (swpTo l a b n))]:=by
 refine AC.of_awp_gen (T:=T) T_ok hm Tryz.call216 Tryz.func216 rfl rfl rfl rfl rfl rfl ?_
 conv=>whnf
 refine loop_k (ι:=Nat) [0,1,2,3] [] (fun k=>k<=n) (fun k=>n-k) 0 (fun k=>[(10,.pv (vint k))]) (fun k=>[(900000,rowL 10 cWrite (swpTo l a b k))]) [] (qe _) ?_ (fun k hk=>?_)
 ·rw[Zwp];(repeat'(first|exact QC|refine qa ?_ ?_));intro i hi;exact PSubs.rfl
 have hsl:=Z1m l a b k
 conv=>whnf
 repeat(any_goals((first|refine QB ?_ ?_<;>intro h<;>(try simp only[Q0,Q1,Q2,Q3,Q4,Q5,Q6,Q7,Q8,reduceCtorEq]at h)|refine QI ?_|refine QK ?_|refine QW ?_)<;>conv=>whnf))
 ·refine⟨k+1,[],by omega,by omega,?_⟩;rw[<-Zwo (l:=l) (a:=a) (b:=b) (k:=k) (by omega) (by omega)];have hr:=fun q=>Z65 (l:=swpTo l a b k) (i:=a+k) (j:=b+k) (by omega) (by omega) q
  (repeat'(first|exact QC|refine qa ?_ ?_))
  ·rw[Z1s]
  intro i hi;exact hr i
 have e:k=n:=by omega
 subst e;refine⟨rfl,[],?_⟩;(repeat'(first|exact QC|refine qa ?_ ?_));intro i hi;exact PSubs.rfl
theorem Zmb(x:Scene)(s:ByteArray):AC Tryz.prog 305 [.pv (.agg (cSce x)),.pv (.cell [vstr s])] [] (.pv (vbool (decide (x.name=s)))) []:=by
 refine AC.of_awp (T:=T) T_ok hm Tryz.call305 Tryz.func305 rfl rfl rfl ?_
 conv=>whnf
 exact .rfl
def sceB(s:ByteArray):List PV->Bool
 | [.agg (.val (.string n)::_)]=>decide (n=s)
 |_=>false
theorem Zmm(l:List Scene)(gb:List PV->Bool)(gi:List PV->Int)(hl:smallL l):AC Tryz.prog 304 [.pv (roL 2 cSce l),.clo (fun xs=>∃x:Scene,xs = [.agg (cSce x)]) true gb gi] [] (.pv (vint (ixI l.length (firstI l.length fun i=>gb [.agg (cSce (l.getD i default))])))) []:=by
 have hl:l.length<=1048576:=hl;refine AC.of_awp (T:=T) T_ok hm Tryz.call304 Tryz.func304 rfl rfl rfl ?_
 conv=>whnf
 refine loop_k (ι:=Nat) [0,1,7] [] (fun k=>k<=l.length∧(∀j,j<k->gb [.agg (cSce (l.getD j default))]=false)) (fun k=>l.length-k) 0 (fun k=>[(8,.pv (vint k))]) (fun _=>[]) [] ⟨qe _,fun j h=>absurd h (by omega)⟩ ?_ (fun k hk=>?_)
 ·exact QD
 obtain⟨hkn,hinv⟩:=hk
 conv=>whnf
 repeat(any_goals((first|refine QB ?_ ?_<;>intro h<;>(try simp only[Q0,Q1,Q2,Q3,Q4,Q5,Q6,Q7,Q8,reduceCtorEq]at h)|refine QI ?_)<;>conv=>whnf))
 ·refine qa ⟨l.getD k default,rfl⟩ ?_
  conv=>whnf
  repeat(any_goals((first|refine QB ?_ ?_<;>intro h<;>(try simp only[Q0,Q1,Q2,Q3,Q4,Q5,Q6,Q7,Q8,reduceCtorEq]at h)|refine QW ?_)<;>conv=>whnf))
  ·have e:firstI l.length (fun i=>gb [.agg (cSce (l.getD i default))])=k:=Z0u (by omega) h hinv;exact PSub.int (by rw[e,ixI,qK (by omega)])
  refine⟨k+1,[],⟨by omega,?_⟩,by first|omega|(dsimp only;omega),?_⟩;rotate_left
  ·exact QD
  intro j hj
  by_cases e:j=k
  ·subst e;first|exact h|simpa[-List.getD_eq_getElem?_getD]using h|simp_all[-List.getD_eq_getElem?_getD]
  exact hinv j (by omega)
 have e:firstI l.length (fun i=>gb [.agg (cSce (l.getD i default))])=l.length:=Z0z fun j hj=>hinv j (by omega)
 exact PSub.int (by rw[e,ixI,qJ (by omega)])
theorem Zmn(l:List Scene)(s:ByteArray)(hl:smallL l):AC Tryz.prog 304 [.pv (roL 2 cSce l),.fn 305 [.pv (.cell [vstr s])]] [] (.pv (vint (ixI l.length (sceAt l s)))) []:=by
 refine AC.with_fn (pre:=[.pv (roL 2 cSce l)]) (post:=[]) (Zmm l (sceB s) (fun _=>0) hl) Tryz.call305 rfl rfl rfl ?_
 rintro xs ⟨x,rfl⟩
 exact Zmb x s
theorem Zma(l:List Scene)(s:ByteArray)(hl:smallL l)(hi:∀i,smallL (l.getD i default).items):AC Tryz.prog 301 [.pv (roL 2 cSce l),.pv (vstr s)] [] (.pv (.tup [.agg (cSce (findS l s)),vbool (decide (sceAt l s<l.length))])) []:=by
 have hl':l.length<=1048576:=hl;refine AC.of_awp (T:=T) T_ok hm Tryz.call301 Tryz.func301 rfl rfl rfl ?_
 conv=>whnf
 refine .inl ⟨_,Zmn l s hl,?_⟩
 conv=>whnf
 repeat(any_goals((first|refine QB ?_ ?_<;>intro h<;>(try simp only[Q0,Q1,Q2,Q3,Q4,Q5,Q6,Q7,Q8,reduceCtorEq]at h))<;>conv=>whnf))
 ·have h1:¬sceAt l s<l.length:=fun hh=>by rw[ixI,qK hh]at h;omega
  rw[findS,qJ h1];refine⟨?_,?_⟩<;>(conv=>whnf)
  ·exact PSub.agg ⟨.rfl,PSub.nil_ro _ _,trivial⟩
  exact PSub.lit_sb (by simp[h1])
 have h1:sceAt l s<l.length:=(Zfg h).1;have h2:ixI l.length (sceAt l s)=(sceAt l s:Int):=(Zfg h).2;rw[findS,qK h1,h2];refine qa (by omega) ?_
 conv=>whnf
 refine .inr (.inl ⟨_,_,_,Zmd (l.getD (sceAt l s) default).items.length (fun i=>cItem ((l.getD (sceAt l s) default).items.getD i default)) (hi _),?_⟩)
 conv=>whnf
 refine⟨?_,?_⟩<;>(conv=>whnf)
 ·exact .rfl
 exact PSub.lit_sb (by simp[h1])
theorem Zpo{l:List Item}{q:Key}{k:Nat}(hk:k<l.length)(h:(l.getD k default).key=q)(hf:∀j,j<k->(l.getD j default).key≠q):findI l q=some (l.getD k default):=by
 unfold findI;rw[List.find?_eq_some_iff_getElem];refine⟨qB h,k,hk,(Z03 _ _ hk).symm,fun j hj=>?_⟩;have:=hf j hj;rw[Z03 _ _ (show j<l.length by omega)]at this;simp[this]
theorem Ze7{l:List Item}{q:Key}(hf:∀j,j<l.length->(l.getD j default).key≠q):findI l q=none:=by
 unfold findI;rw[List.find?_eq_none];intro x hx;obtain⟨j,hj,rfl⟩:=qp hx;have:=hf j hj;rw[Z03 _ _ hj]at this;simp[this]
theorem atV_at{l:List Item}{q:Key}{k:Nat}(hk:k<l.length)(h:(l.getD k default).key=q)(hf:∀j,j<k->(l.getD j default).key≠q):atV l q=itV (l.getD k default).value:=by
 unfold atV;rw[Zpo hk h hf]
theorem Z4c{x:Val}(h:x.kind=0):fndV x=(noVal,false):=qK h
theorem Z2f{x:Val}(h:x.kind≠0):fndV x=(x,true):=qJ h
theorem Z5f(b:Bool):fndV (truV b)=(truV b,true):=Z2f (by simp[truV])
theorem Zjn(v:Vw)(q:Key)(hv:smallV2 v):AC Tryz.prog 147 [.pv (.agg (cVw v)),.pv (.agg (cKey q))] [] (.pv (.tup [.agg (cVal (fndV (atV v.items q)).1),vbool (fndV (atV v.items q)).2])) []:=by
 have hl:v.items.length<=1048576:=hv.1;refine AC.of_awp (T:=T) T_ok hm Tryz.call147 Tryz.func147 rfl rfl rfl ?_
 conv=>whnf
 refine loop_k (ι:=Nat) [3,4,9,10] [3,4] (fun k=>k<=v.items.length∧(∀j,j<k->(v.items.getD j default).key≠q)) (fun k=>v.items.length-k) 0 (fun k=>[(11,.pv (vint k))]) (fun _=>[]) [] ⟨qe _,fun j h=>absurd h (by omega)⟩ ?_ (fun k hk=>?_)
 ·exact QD
 obtain⟨hkn,hinv⟩:=hk
 conv=>whnf
 refine⟨fun h=>?_,fun h=>?_⟩<;>(try simp only[Q0,Q1,Q2,Q3,Q4,Q5,Q6,Q7,Q8,reduceCtorEq]at h)<;>(conv=>whnf)
 ·have hk:k<v.items.length:=by omega
  repeat(any_goals((first|refine QB ?_ ?_<;>intro h<;>(try simp only[Q0,Q1,Q2,Q3,Q4,Q5,Q6,Q7,Q8,reduceCtorEq]at h)|refine .inl ⟨_,Z8o (v.items.getD k default).value,?_⟩|refine .inl ⟨_,Z1t,?_⟩|refine QI ?_|refine QW ?_)<;>conv=>whnf))
  ·rename_i h1;have e1:=qC ((key_eq _ _).symm.trans h1);have e2:fndV (atV v.items q)=(noVal,false):=by
    rw[atV_at hk e1 hinv];refine Z4c ?_;unfold itV
    by_cases hb:valE (v.items.getD k default).value≠0
    ·rw[qK hb];rfl
    rw[qJ hb];exact h
   rw[e2];refine⟨?_,?_⟩<;>(conv=>whnf)
   ·exact QE
   exact QE
  ·rename_i h1 h2;have e1:=qC ((key_eq _ _).symm.trans h1);have e2:fndV (atV v.items q)=(noVal,false):=by
    rw[atV_at hk e1 hinv];refine Z4c ?_;unfold itV;rw[qK h];rfl
   rw[e2];refine⟨?_,?_⟩<;>(conv=>whnf)
   ·exact QE
   exact QE
  ·rename_i h1 h2;have e1:=qC ((key_eq _ _).symm.trans h1);have e2:fndV (atV v.items q)=((v.items.getD k default).value,true):=by
    have hn:¬valE (v.items.getD k default).value≠0:=fun x=>x h
    rw[atV_at hk e1 hinv];unfold itV;rw[qJ hn];exact Z2f h2
   rw[e2];refine⟨?_,?_⟩<;>(conv=>whnf)
   ·exact QE
   exact QE
  have e1:=of_decide_eq_false ((key_eq _ _).symm.trans h);refine⟨k+1,[],⟨by omega,?_⟩,by first|omega|(dsimp only;omega),?_⟩;rotate_left
  ·exact QD
  intro j hj
  by_cases e:j=k
  ·subst e;exact e1
  exact hinv j (by omega)
 repeat(any_goals((first|refine .inl ⟨_,Z1t,?_⟩)<;>conv=>whnf))
 have e2:fndV (atV v.items q)=(noVal,false):=by
  unfold atV;rw[Ze7 fun j hj=>hinv j (by omega)];exact Z4c rfl
 rw[e2];refine⟨?_,?_⟩<;>(conv=>whnf)
 ·exact QE
 exact QE
theorem Zcx{l:List Mem}{r:Int}{k:Nat}(hk:k<l.length)(h:isHome (l.getD k default) r=true):homeB l r=true:=by
 unfold homeB;rw[List.any_eq_true];rw[Z03 _ _ hk]at h;exact⟨_,qE hk,h⟩
theorem Zcy{l:List Mem}{r:Int}(h:∀j,j<l.length->isHome (l.getD j default) r=false):homeB l r=false:=by
 unfold homeB;rw[List.any_eq_false];intro x hx;obtain⟨j,hj,rfl⟩:=qp hx;have:=h j hj;rw[Z03 _ _ hj]at this;rw[this];decide
theorem Zjq (l : List Mem) (r : Int) (hl : smallL l) : AC Tryz.prog 152 [.pv (roL 5 cMem l), .pv (vint r)] [] (.pv (vbool (homeB l r))) [] := by
  have hl2 : l.length ≤ 1048576 := hl
  refine AC.of_awp (T := T) T_ok hm Tryz.call152 Tryz.func152 rfl rfl rfl ?_
  conv => whnf
  refine loop_k (ι := Nat) [1, 7, 8] [] (fun k => k ≤ l.length ∧ (∀ j, j < k → isHome (l.getD j default) r = false)) (fun k => l.length - k) 0 (fun k => [(9, .pv (vint k))]) (fun _ => []) [] ⟨Nat.zero_le _, fun j h => absurd h (by omega)⟩ ?_ (fun k hk => ?_)
  · (repeat'(first | exact PSub.rfl | exact rfl | exact PSubs.rfl | exact trivial | exact PSub.lit_sb rfl | refine And.intro ?_ ?_))
  obtain ⟨hkn, hinv⟩ := hk
  conv => whnf
  refine ⟨fun h => ?_, fun h => ?_⟩ <;> (try simp only [Q0,Q1,Q2,Q3,Q4,Q5,Q6,Q7,Q8,reduceCtorEq] at h) <;> (conv => whnf)
  · have hk : k < l.length := by omega
    repeat(any_goals(first
      | (refine ⟨fun (h : (_ : Bool) = true) => ?_, fun (h : (_ : Bool) = false) => ?_⟩ <;> (try simp only [Q0,Q1,Q2,Q3,Q4,Q5,Q6,Q7,Q8,reduceCtorEq] at h) <;> (conv => whnf))
      | (refine And.intro (by (try simp only [Int.toNat_natCast]); omega) ?_; conv => whnf)
      | (refine .inl ⟨wrap64 (by omega), ?_⟩; conv => whnf)))
    all_goals first
      | exact PSub.lit_sb (Zcx hk (by unfold isHome; simp_all)).symm
      | skip
    all_goals (refine ⟨k + 1, [], ⟨by omega, fun j hj => ?_⟩, by omega, ?_⟩)
    all_goals first
      | (by_cases e : j = k; · subst e; unfold isHome; simp_all
         exact hinv j (by omega))
      | skip
    all_goals (repeat'(first | exact PSub.rfl | exact rfl | exact PSubs.rfl | exact trivial | refine And.intro ?_ ?_))
  · exact PSub.lit_sb (Zcy fun j hj => hinv j (by omega)).symm
theorem Z7s{v:Val}(h:valE v=0)(hk:v.kind=2):smallV v.n:=Zx3 h hk
theorem Zjs(k:Int)(a b:Val)(ha:valE a=0)(hb:valE b=0):AC Tryz.prog 155 [.pv (vint k),.pv (.agg (cVal a)),.pv (.agg (cVal b))] []
  (.pv (.tup [.agg (cVal (fndV (if k=9 then truV (decide (a=b))else intV k a b)).1),vbool (fndV (if k=9 then truV (decide (a=b))else intV k a b)).2])) []:=by
 have hint:¬(a.kind≠2∨b.kind≠2)->smallV a.n∧smallV b.n:=fun h=>⟨Z7s ha (by omega),Z7s hb (by omega)⟩
 refine AC.of_awp (T:=T) T_ok hm Tryz.call155 Tryz.func155 rfl rfl rfl ?_
 conv=>whnf
 have hv:=val_eq a b;have sp:∀x,(if k=9 then truV (decide (a=b))else intV k a b)=x->x.kind≠0->fndV (if k=9 then truV (decide (a=b))else intV k a b)=(x,true):=fun x e h=>by rw[e];exact Z2f h
 repeat(any_goals((first|refine QB ?_ ?_<;>intro h<;>(try simp only[Q0,Q1,Q2,Q3,Q4,Q5,Q6,Q7,Q8,reduceCtorEq]at h)|refine .inl ⟨_,Z2v _,?_⟩|refine .inl ⟨_,Z1t,?_⟩|refine .inl ⟨_,Zbv a.n b.n (hint (by omega)).1.N (hint (by omega)).2.N,?_⟩|refine .inl ⟨_,Zk5 a.n b.n (hint (by omega)).1.N (hint (by omega)).2.N,?_⟩|refine .inl ⟨_,Zk4 a.n b.n (hint (by omega)).1 (hint (by omega)).2,?_⟩)<;>conv=>whnf))
 ·rw[hv,sp (truV (decide (a=b))) (qK h) (by simp[truV])];refine⟨?_,?_⟩<;>(conv=>whnf)
  ·exact PSub.rfl
  exact PSub.rfl
 ·rename_i h1;rw[show fndV (if k=9 then truV (decide (a=b))else intV k a b)=(noVal,false)from by rw[qJ h1];unfold intV;rw[qK (.inl h)];rfl];refine⟨?_,?_⟩<;>(conv=>whnf)
  ·exact PSub.rfl
  exact PSub.rfl
 ·rename_i h1 h2;rw[show fndV (if k=9 then truV (decide (a=b))else intV k a b)=(noVal,false)from by rw[qJ h1];unfold intV;rw[qK (.inr h)];rfl];refine⟨?_,?_⟩<;>(conv=>whnf)
  ·exact PSub.rfl
  exact PSub.rfl
 ·rename_i h1 h2 h3;rw[sp (truV (decide (a.n<b.n))) (by rw[qJ h1];unfold intV;rw[qJ (by omega),qK h]) (by simp[truV])];refine⟨?_,?_⟩<;>(conv=>whnf)
  ·exact PSub.rfl
  exact PSub.rfl
 ·rename_i h1 h2 h3 h4;rw[sp ⟨2,satI (a.n+b.n),⟨#[]⟩⟩ (by rw[qJ h1];unfold intV;rw[qJ (by omega),qJ h4];unfold binN;rw[qK h]) (show(2:Int)≠0 by decide)];refine⟨?_,?_⟩<;>(conv=>whnf)
  ·exact QE
  exact QE
 ·rename_i h1 h2 h3 h4 h5;rw[sp ⟨2,satI (a.n-b.n),⟨#[]⟩⟩ (by rw[qJ h1];unfold intV;rw[qJ (by omega),qJ h4];unfold binN;rw[qJ h5,qK h]) (show(2:Int)≠0 by decide)];refine⟨?_,?_⟩<;>(conv=>whnf)
  ·exact QE
  exact QE
 rename_i h1 h2 h3 h4 h5;rw[sp ⟨2,mulI a.n b.n,⟨#[]⟩⟩ (by rw[qJ h1];unfold intV;rw[qJ (by omega),qJ h4];unfold binN;rw[qJ h5,qJ h]) (show(2:Int)≠0 by decide)];refine⟨?_,?_⟩<;>(conv=>whnf)
 ·exact QE
 exact QE
theorem Zh3{e:Ex}(h:okN e):(e.kind=4->0<=e.n∧e.n<1440∧0<=e.m∧e.m<1440)∧(e.kind=5->1<=e.n∧e.n<=127):=by
 have hn:=((Z0h e).1 h).1;have hr:rangeB e=true:=by
  cases hb:rangeB e with
  |true=>rfl
  |false=>
   unfold nodeE at hn;rw[hb]at hn
   split at hn
   ·cases hn
   split at hn
   ·cases hn
   rw[qK rfl]at hn;cases hn
 constructor
 ·intro hk;unfold rangeB at hr;rw[qK hk]at hr;exact qC hr
 intro hk;unfold rangeB at hr;rw[qJ (by omega),qK hk]at hr;exact qC hr
theorem Zfo{e:Ex}(h:okN e):(e.kind=6->e.kids.length=1)∧(9<=e.kind∧e.kind<=13->e.kids.length=2)∧(e.kind=14->e.kids.length=3):=by
 have hb:=Zgh h;unfold kidsB at hb;refine⟨fun hk=>?_,fun hk=>?_,fun hk=>?_⟩
 ·rw[qK hk]at hb;have:=qC hb;omega
 ·rw[qJ (by omega),qJ (by omega),qK hk]at hb;have:=qC hb;omega
 rw[qJ (by omega),qJ (by omega),qJ (by omega),qK hk]at hb;have:=qC hb;omega
theorem Zgi{e:Ex}(h:okN e):1<=e.kind∧e.kind<=15:=by
 have hn:=((Z0h e).1 h).1
 by_cases hk:e.kind<1∨15<e.kind
 ·unfold nodeE at hn;rw[qK hk]at hn;cases hn
 omega
open Go.RowKit
variable [Globals]
def WF(ro:Option Nat):Fence:={ Fence.wide with round:=ro }
theorem callsIn_wf{ro:Option Nat}{n:Nat}{P:Program}{f:FuncId}{args:Array Value}{w:World}{R:Ending->World->Prop}:CallsIn (WF ro) n P f args w R↔Calls P f args w R:=
 (callsIn_wide (n:=n):CallsIn Fence.wide n P f args w R↔_)
theorem Ztp{ro:Option Nat}{n:Nat}{P:Program}{row:String}{args:Array Value}{w:World}{R:Value->World->Prop}(h:Rows P row args w R):RowsIn (WF ro) n P row args w R:=
 fun c cs _=>let ⟨v,w',r,s⟩:=h c cs;⟨v,w',r,stepsIn_wide.2 s⟩
def notDefer(o:Oper):Bool:=match o.op with | .defer _=>false|_=>true
theorem Zrx{o:Oper}(h:notDefer o=true):∀c,o.op≠.defer c:=fun c e=>by unfold notDefer at h;rw[e]at h;cases h
theorem Z4q(a:Act)(d:Option Tmp)(v:Value):(a.put d v).defers=a.defers∧(⟨(a.put d v).tmps,[]⟩:Act)=(⟨a.tmps,[]⟩:Act).put d v:=by
 cases d<;>exact⟨rfl,rfl⟩
section
variable {P:Program} {T:Tab} {E:FEnv} {ro:Option Nat} {n:Nat}
theorem opIn{o:Oper}{a:Act}{w:World}{next:Act->World->Prop}{Q:Exit->Act->World->Prop}(hnd:notDefer o=true)(hn:∀a w,next a w->a.defers = [])
  (h:o.wp P ⟨a.tmps,[]⟩ w next (fun _ _ _=>False)):o.wpIn (WF ro) n P a w (fun a' w'=>a'.defers=a.defers∧next ⟨a'.tmps,[]⟩ w') Q:=by
 refine⟨fun f _=>trivial,?_⟩;rw[Oper.semAt_eq _ _ _ (Zrx hnd)];unfold Oper.wp at h;have hev:(⟨a.tmps,[]⟩:Act).eval=a.eval:=rfl;rw[hev]at h;generalize (execOp a.eval o).run P w=r at *;cases r with
 |ok nx w'=>
  cases nx with
  |value v=>
   obtain⟨h1,h2⟩:=Z4q a o.dst v;exact⟨h1,by rw[h2];exact h⟩
  |skip=>
   obtain⟨h1,h2⟩:=Z4q a o.dst undef;exact⟨h1,by rw[h2];exact h⟩
  |enter f args=>
   refine⟨fun hd=>(by cases hd),callsIn_wf.2 ?_⟩;have h:Calls P f args w' _:=h;refine h.mono fun e w'' he=>?_
   cases e with
   |returned v=>
    obtain⟨h1,h2⟩:=Z4q a o.dst v;exact⟨h1,by rw[h2];exact he⟩
   |panicked c=>exact he.elim
   |outgrown=>obtain⟨_,_,he⟩:=he;exact he.elim
  |row row args=>
   refine⟨fun hd=>(by cases hd),Ztp ?_⟩;have h:Rows P row args w' _:=h;refine h.mono fun v w'' he=>?_
   obtain⟨h1,h2⟩:=Z4q a o.dst v;exact⟨h1,by rw[h2];exact he⟩
  |defer d=>
   have h1:=hn _ _ h;rw[(Z4q _ o.dst undef).1]at h1;cases h1
  |_=>exact h.elim
 |halt x w'=>cases x<;>exact h.elim
theorem Z6j(hE:E.ok)(hT:T.ok P){ops:Array Oper}{K:AState->Prop}{d:List Deferred}{tl:List Nat}{Q:Exit->Act->World->Prop}
  (hQ:∀s σ a w,K s->Rel P E s σ ⟨a.tmps,[]⟩ w->a.defers=d->wpOpsIn (WF ro) n P ops Q tl a w) :
  ∀(l:List Oper) (i:Nat) (s:AState) (σ:Sig) (a:Act) (w:World),(∀j,j<l.length->l[j]? = ops[i+j]?)->l.all notDefer=true->a.defers=d->Rel P E s σ ⟨a.tmps,[]⟩ w->arun P T E.nt ops.toList l s K->
   wpOpsIn (WF ro) n P ops Q (List.range' i l.length++tl) a w
 | [],i,s,σ,a,w,_,_,hd,hR,h=>by simpa using hQ s σ a w h hR hd
 |o::l,i,s,σ,a,w,hl,hnd,hd,hR,h=>by
  have ho:ops[i]? = some o:=by simpa using(hl 0 (by simp)).symm
  have hl':∀j,j<l.length->l[j]? = ops[i+1+j]?:=fun j hj=>by have:=hl (j+1) (by simpa using hj);simpa[Nat.add_assoc,Nat.add_comm 1 j]using this
  rw[List.all_cons,qc]at hnd;simp only[qy,List.range'_succ,List.cons_append,wpOpsIn,ho];unfold arun at h;obtain⟨s',hK,hR'⟩:=Z9u (ops:=ops) (a:=⟨a.tmps,[]⟩) hR h;cases hw:Region.wanted o (yielded ops a.tmps)with
  |true=>
   rw[show(⟨a.tmps,[]⟩:Act).tmps=a.tmps from rfl,hw]at hK;simp only[if_true];refine Oper.wpIn_mono ?_ (opIn (n:=n) (ro:=ro) hnd.1 (fun a w ⟨_,_,_,hr⟩=>hr.df) (Zgj hE hT hR' hK))
   rintro a' w' ⟨hd',s2,σ2,hs2,hR2⟩
   exact Z6j hE hT hQ l (i+1) s2 σ2 a' w' hl' hnd.2 (hd'.trans hd) hR2 hs2
  |false=>
   rw[show(⟨a.tmps,[]⟩:Act).tmps=a.tmps from rfl,hw]at hK;simp only[Bool.false_eq_true,if_false];refine⟨fun f _=>trivial,?_⟩;obtain⟨tm,ob⟩:=s';have hdd:∀t,o.dst=some t->t<E.nt:=by
    intro t ht;simp only[ht]at hK;unfold nextS at hK;exact qi (Z02 hK).1
   have h2:=hR'.skip o.dst hdd;obtain⟨h3,h4⟩:=Z4q a o.dst undef;rw[<-h4]at h2;refine Z6j hE hT hQ l (i+1) _ σ _ w hl' hnd.2 (h3.trans hd) h2 ?_;cases hd':o.dst with
   |none=>rw[hd']at hK;exact hK
   |some t=>rw[hd']at hK;exact(Z02 hK).2
def okX:Code->Bool
 | .skip=>true
 | .region _ ops dr=>!dr&&ops.toList.all notDefer
 | .seq x y=>okX x&&okX y
 | .cond _ x y=>okX x&&okX y
 | .block _ c=>okX c
 | .exit _=>true
 | .ret=>true
 |_=>false
def exitX(P:Program)(E:FEnv)(d:List Deferred)(Q:AExit->AState->Prop)(e:Exit)(a:Act)(w:World):Prop:=a.defers=d∧exitQ P E Q e ⟨a.tmps,[]⟩ w
theorem Z0r(hE:E.ok)(hT:T.ok P){d:List Deferred}:∀(c:Code) (s:AState) (Q:AExit->AState->Prop) (σ:Sig) (a:Act) (w:World),okX c=true->a.defers=d->Rel P E s σ ⟨a.tmps,[]⟩ w->awp P T E.nt c s Q->c.wpIn (WF ro) n P (exitX P E d Q) a w
 | .skip,s,Q,σ,a,w,_,hd,hR,h=>wpIn_skip ⟨hd,s,σ,h,hR⟩
 | .region id ops true,s,Q,σ,a,w,ho,hd,hR,h=>by simp[okX]at ho
 | .region id ops false,s,Q,σ,a,w,ho,hd,hR,h=>by
  refine wpIn_region ?_;have:=Z6j (ro:=ro) (n:=n) (tl:=[]) (Q:=exitX P E d Q) hE hT (fun s σ a w hs hR hd=>⟨hd,s,σ,hs,hR⟩) ops.toList 0 s σ a w (fun j _=>by simp) (by simpa[okX]using ho) hd hR h;rw[List.range_eq_range'];simpa using this
 | .seq x y,s,Q,σ,a,w,ho,hd,hR,h=>by
  simp only[okX,qc]at ho;refine wpIn_seq (wpIn_mono (Z0r hE hT x s _ σ a w ho.1 hd hR h) (fun e a' w' he=>?_));obtain⟨hd',he⟩:=he;cases e with
  |normal=>obtain⟨s',σ',hq,hR'⟩:=he;exact Z0r hE hT y s' Q σ' a' w' ho.2 hd' hR' hq
  |exit i=>exact⟨hd',he⟩
  |ret=>exact⟨hd',he⟩
  |goto l=>exact he.elim
  |panic c=>exact he.elim
  |outgrown=>exact he.elim
 | .cond c x y,s,Q,σ,a,w,ho,hd,hR,h=>by
  simp only[okX,qc]at ho;obtain⟨tm,ob⟩:=s;have hc:=Z49 hE hR c;unfold awp at h;simp only at h
  split at h
  ·rename_i b hb;rw[show evO tm c = .pv (.val (.bool b))from hb]at hc;have hv:=pr_val (arg_pv hc);refine wpIn_cond hv ?_;cases b with
   |true=>exact Z0r hE hT x _ Q σ a w ho.1 hd hR h
   |false=>exact Z0r hE hT y _ Q σ a w ho.2 hd hR h
  ·rename_i b hb;rw[show evO tm c = .pv (.sb b)from hb]at hc;have hv:=pr_sb (arg_pv hc);refine wpIn_cond hv ?_;cases b with
   |true=>exact Z0r hE hT x _ Q σ a w ho.1 hd hR (h.1 rfl)
   |false=>exact Z0r hE hT y _ Q σ a w ho.2 hd hR (h.2 rfl)
  exact h.elim
 | .block id c,s,Q,σ,a,w,ho,hd,hR,h=>by
  refine wpIn_block (wpIn_mono (Z0r hE hT c s _ σ a w (by simpa[okX]using ho) hd hR h) (fun e a' w' he=>?_));obtain⟨hd',he⟩:=he;cases e with
  |normal=>exact⟨hd',he⟩
  |exit i=>
   obtain⟨s',σ',hq,hR'⟩:=he;have hq:(match Nat.beq i id with|true=>Q .normal s'|false=>Q (.exit i) s'):=hq;simp only[Exit.inBlock];cases hb:Nat.beq i id with
   |true=>
    rw[hb]at hq;rw[qK (qg hb)];exact⟨hd',s',σ',hq,hR'⟩
   |false=>
    rw[hb]at hq;rw[qJ (fun e=>by rw[e]at hb;simp at hb)];exact⟨hd',s',σ',hq,hR'⟩
  |ret=>exact⟨hd',he⟩
  |goto l=>exact he.elim
  |panic c=>exact he.elim
  |outgrown=>exact he.elim
 | .exit id,s,Q,σ,a,w,_,hd,hR,h=>wpIn_exit ⟨hd,s,σ,h,hR⟩
 | .ret,s,Q,σ,a,w,_,hd,hR,h=>wpIn_ret ⟨hd,s,σ,h,hR⟩
 | .loop ..,s,Q,σ,a,w,ho,hd,hR,h=>by simp[okX]at ho
 | .rangeFunc ..,s,Q,σ,a,w,ho,hd,hR,h=>h.elim
 | .scope _,s,Q,σ,a,w,ho,hd,hR,h=>h.elim
 | .label _,s,Q,σ,a,w,ho,hd,hR,h=>h.elim
 | .goto _,s,Q,σ,a,w,ho,hd,hR,h=>h.elim
 | .refuse _,s,Q,σ,a,w,ho,hd,hR,h=>h.elim
def pinOf(σ:Sig)(l:Nat):Option Loc:=if 900000<=l then σ l else none
abbrev reE(nt:Nat)(M0:Nat->Prop)(σ:Sig)(w':World):FEnv:=⟨nt,fun _=>False,M0,owned σ,w',pinOf σ⟩
theorem reE_ok{M0:Nat->Prop}{σ:Sig}{w:World}{nt:Nat}(hi:Inv (fun _=>False) M0 σ w):(reE nt M0 σ w).ok:=
 ⟨hi.m0,fun _ h=>h.elim,hi.gl,fun l loc e=>by
  have e:pinOf σ l=some loc:=e;unfold pinOf at e
  split at e
  ·assumption
  ·cases e⟩
theorem Z76{M0:Nat->Prop}{σ:Sig}{w w':World}(hi:Inv (fun _=>False) M0 σ w)(hs:Same (Mof M0 σ) w w'):Inv (fun _=>False) M0 σ w':=
 ⟨hi.sep,fun b hb=>qD (hi.lt b hb) hs.1,fun b hb=>⟨qD (hi.m0 b hb).1 hs.1,(hi.m0 b hb).2⟩,fun _ h=>h.elim,hi.gl.mono hs (fun _ _ h=>h)⟩
theorem Rel.to{s:AState}{σ:Sig}{a:Act}{w w':World}{nt:Nat}{M0 F0:Nat->Prop}{w1:World}{pin:Nat->Option Loc}{ob2:List (Nat×AObj)}(hR:Rel P ⟨nt,fun _=>False,M0,F0,w1,pin⟩ s σ a w)(hi:Inv (fun _=>False) M0 σ w)(hs:Same (Mof M0 σ) w w')
  (hk:∀i,(getO ob2 i=none↔getO s.ob i=none)) (hob:∀i o,getO ob2 i=some o->refsO o = []∧At P w' (fun _=>False) M0 σ i o):Rel P (reE nt M0 σ w') ⟨s.tm,ob2⟩ σ a w':=by
 refine⟨hR.sz,hR.df,fun t=>(hR.tm t).mono hs (fun _ _ h=>h) (fun _ h=>h.elim) (fun _ _ _ e=>e),fun l o e=>(hob l o e).2,fun l e=>hR.nob l ((hk l).1 e),fun t l hl e=>hR.wt t l hl ((hk l).1 e),fun i o e l hl=>?_,hR.sep,fun b hb=>.inl hb,FExt.refl _ _,fun l loc e=>?_⟩
 ·rw[(hob i o e).1]at hl;cases hl
 have e:pinOf σ l=some loc:=e;unfold pinOf at e
 split at e
 ·refine⟨fun h=>?_,fun loc' e'=>qN (e'.symm.trans e)⟩;have:=hR.nob l ((hk l).1 h);rw[this]at e;cases e
 cases e
theorem getO_none:∀ {l:List (Nat×AObj)} {i:Nat},getO l i=none↔i∉l.map (·.1)
 | [],i=>by simp[getO]
 |(j,o)::l,i=>by
  rw[Z0v]
  by_cases e:j=i
  ·subst e;simp
  ·rw[qJ e,getO_none (l:=l)];simp[Ne.symm e]
theorem Zem{l l':List (Nat×AObj)}(h:l.map (·.1)=l'.map (·.1))(i:Nat):getO l i=none↔getO l' i=none:=by rw[getO_none,getO_none,h]
theorem Zen{l:List (Nat×AObj)}{i:Nat}(h:getO l i≠none):i∈l.map (·.1):=Classical.byContradiction fun h2=>h (getO_none.2 h2)
def boxF:List (Nat×AObj)->Bool
 | []=>true
 |(_,.pbox cs)::r=>flatP.flatL cs&&boxF r
 |_=>false
theorem Z1x:∀ {ob:List (Nat×AObj)} {i:Nat} {o:AObj},boxF ob=true->getO ob i=some o->∃cs,o = .pbox cs∧flatP.flatL cs=true
 |(j,.pbox cs)::r,i,o,h,e=>by
  simp only[boxF,qc]at h;rw[Z0v]at e
  split at e
  ·cases e;exact⟨cs,rfl,h.1⟩
  exact Z1x h.2 e
theorem obj_at{w w':World}{St M0 M0':Nat->Prop}{σ σ':Sig}{i:Nat}{cs:List PV}(h:At P w St M0 σ i (.pbox cs))(hf:flatP.flatL cs=true)(hσ:∀loc,σ i=some loc->σ' i=some loc)
  (hb:∀b,owned σ' b->w'.heap[b]? = w.heap[b]?):At P w' (fun _=>False) M0' σ' i (.pbox cs):=by
 obtain⟨b,vs,t,hl,hb',hsz,hp,hone⟩:=Z44 h;have hl':=hσ _ hl;exact⟨_,hl',.pbox cs b vs t ((hb b ⟨i,_,hl',rfl⟩).trans hb') hsz (fun j p e=>(hp j p e).flat (Z6z hf j p e)) hone⟩
structure RS (P:Program) (nt:Nat) (M0:Nat->Prop) (σ:Sig) (a0:Act) (w0:World) (l D:Nat) (rec:Loop) (S:AState) (W:World):Prop where
 rel:Rel P (reE nt M0 σ W) S σ a0 W
 inv:Inv (fun _=>False) M0 σ W
 lrec:W.heap[l]? = some (.loop rec)
 dfr:W.heap[D]? = some (.deferred (some []))
 ext:FExt (owned σ) w0 W
theorem RS.goes{nt:Nat}{M0:Nat->Prop}{σ:Sig}{a0:Act}{w0 W W':World}{l D:Nat}{rec rec':Loop}{S S':AState}(h:RS P nt M0 σ a0 w0 l D rec S W)(hl:M0 l)(hD:M0 D)(hlD:D≠l)(hw0:w0.heap.size<=l)
  (hx:FExt (fun b=>owned σ b∨b=l) W W') (hrec:W'.heap[l]? = some (.loop rec')) (htm:S'.tm=S.tm) (hk:∀i,(getO S'.ob i=none↔getO S.ob i=none)) (hf:boxF S'.ob=true)
  (hob:∀i o,getO S'.ob i=some o->At P W' (fun _=>False) M0 σ i o):RS P nt M0 σ a0 w0 l D rec' S' W'∧Same (Mof M0 σ) W W':=by
 have hs:Same (Mof M0 σ) W W':=hx.same.mono fun b _ hb=>hb.elim .inr (fun e=>.inl (e▸hl))
 have hrel:Rel P (reE nt M0 σ W') ⟨S.tm,S'.ob⟩ σ a0 W':=Rel.to h.rel h.inv hs hk (fun i o e=>⟨by obtain⟨cs,rfl,_⟩:=Z1x hf e;rfl,hob i o e⟩);refine⟨⟨?_,Z76 h.inv hs,hrec,?_,?_⟩,hs⟩
 ·rw[<-htm]at hrel;exact hrel
 ·exact(hx.block D (h.inv.m0 D hD).1 (fun hb=>hb.elim (h.inv.m0 D hD).2 hlD)).trans h.dfr
 exact⟨hx.os.trans h.ext.os,hx.tape.trans h.ext.tape,hx.output.trans h.ext.output,qF h.ext.size hx.size,fun b hb hn=>(hx.block b (qD hb h.ext.size) (fun hh=>hh.elim hn (fun e=>by omega))).trans (h.ext.block b hb hn),qF h.ext.drawn hx.drawn⟩
theorem RS.step{nt:Nat}{M0:Nat->Prop}{σ:Sig}{a0:Act}{w0 W W':World}{l D:Nat}{rec:Loop}{S:AState}(h:RS P nt M0 σ a0 w0 l D rec S W)(hl:M0 l)(hD:M0 D)(hlD:D≠l)(hw0:w0.heap.size<=l)
  (hf:boxF S.ob=true) (hx:FExt (fun _=>False) W W'):RS P nt M0 σ a0 w0 l D rec S W':=
 (h.goes hl hD hlD hw0 (hx.mono fun _ _ h=>h.elim) ((hx.block l (h.inv.m0 l hl).1 id).trans h.lrec) rfl (fun _=>Iff.rfl) hf (fun i o e=>by
  obtain⟨cs,rfl,hc⟩:=Z1x hf e;exact obj_at (h.rel.ob i _ e) hc (fun _ h=>h) (fun b hb=>hx.block b (h.inv.lt b hb) id))).1
theorem Rel.putA{s:AState}{σ:Sig}{a:Act}{w:World}(hR:Rel P E s σ a w){d:Nat}(hd:d<E.nt){p:PV}{v:Value}(h:PR w (Mof E.M0 σ) p v):Rel P E ⟨(d,.pv p)::s.tm,s.ob⟩ σ ⟨a.tmps.setIfInBounds d v,[]⟩ w:=by
 have hlt:d<a.tmps.size:=by rw[hR.sz];exact hd
 refine⟨by simp[hR.sz],rfl,fun t=>?_,hR.ob,hR.nob,fun t l hl=>?_,hR.wo,hR.sep,hR.own,hR.ext,hR.pn⟩
 ·simp only[Z0m]
  by_cases e:d=t
  ·rw[qK e];subst e;simp[qb,hlt];exact .pv _ _ h
  rw[qJ e];have:=hR.tm t;simpa[qb,Array.getElem?_setIfInBounds_ne e]using this
 simp only[Z0m]at hl
 split at hl
 ·simp[refs]at hl
 exact hR.wt t l hl
theorem Z6t{w:World}{l:Nat}(o:Obj):FExt (fun b=>b=l) w (w.putObj l o):=
 ⟨rfl,rfl,rfl,by simp[World.putObj],fun b _ hb=>World.putObj_heap_other hb,qL _⟩
def normQ(Sa:AState):AExit->AState->Prop
 | .normal,s=>∃r,entS r s Sa
 |_,_=>False
def roundQ(G C:Prop)(o1 ox:List (Nat×AObj)):AExit->AState->Prop
 | .normal,s=>G∧∃r,entS r s ⟨[],o1⟩
 | .ret,s=>C∧∃r,entS r s ⟨[],ox⟩
 |_,_=>False
theorem Ztm(hT:T.ok P){nt m:Nat}{M0:Nat->Prop}{σ:Sig}{a0:Act}{w0 W:World}{l D:Nat}{fn:FuncId}{p q:Tmp}{assign body:Code}{S Sa:AState}{o1 ox:List (Nat×AObj)}{G C:Prop}{x y:PV}{vals:Array Value}
  (h:RS P nt M0 σ a0 w0 l D { state:=.ready,pending:=none,fn,tmps:=a0.tmps,params:=#[p,q],assign,body,defers:=D } S W) (hl:M0 l) (hD:M0 D) (hlD:D≠l) (hw0:w0.heap.size<=l)
  (hf:boxF S.ob=true) (hfa:boxF Sa.ob=true) (hf1:boxF o1=true) (hfx:boxF ox=true) (hhi:∀i,getO S.ob i≠none->900000<=i)
  (hka:∀i,getO S.ob i≠none->getO Sa.ob i≠none) (hk1:∀i,(getO o1 i=none↔getO S.ob i=none)) (hkx:∀i,(getO ox i=none↔getO S.ob i=none))
  (hv:vals.size=2) (hx:PR W (Mof M0 σ) x (vals.getD 0 undef)) (hy:PR W (Mof M0 σ) y (vals.getD 1 undef)) (hp:p<nt) (hq:q<nt) (hoka:okX assign=true) (hokb:okX body=true)
  (ha:awp P T nt assign ⟨(q,.pv y) ::(p,.pv x)::S.tm,S.ob⟩ (normQ Sa)) (hb:awp P T nt body Sa (roundQ G C o1 ox)) :
  ∃fn' tmps assign' body',(Instr.yield l vals).run P W = .ok (.round l fn' tmps assign' body') W∧RoundIn (WF none) m P l fn' tmps assign' body' W (fun e W'=>Same (Mof M0 σ) W W'∧
   ((e = .returned (.bool true)∧G∧RS P nt M0 σ a0 w0 l D { state:=.ready,pending:=none,fn,tmps:=a0.tmps,params:=#[p,q],assign,body,defers:=D } ⟨S.tm,o1⟩ W')∨
    (e = .returned (.bool false)∧C∧RS P nt M0 σ a0 w0 l D { state:=.done,pending:=some .ret,fn,tmps:=a0.tmps,params:=#[p,q],assign,body,defers:=D } ⟨S.tm,ox⟩ W'))):=by
 have hyl:=run_yield (P:=P) (args:=vals) h.lrec hv;refine⟨_,_,_,_,hyl,roundIn_of_wpIn trivial ?_⟩;obtain⟨v0,v1,rfl⟩:∃v0 v1,vals=#[v0,v1]:=by
  refine⟨vals[0]'(by omega),vals[1]'(by omega),?_⟩;apply Array.ext
  ·simpa using hv
  ·intro i h1 h2;have:i=0∨i=1:=by simp at h2;omega
   rcases this with rfl|rfl<;>rfl
 have hE:=reE_ok (nt:=nt) h.inv;have hRin:Rel P (reE nt M0 σ W) ⟨(q,.pv y) ::(p,.pv x)::S.tm,S.ob⟩ σ ⟨(a0.tmps.setIfInBounds p v0).setIfInBounds q v1,[]⟩ W:=
  (h.rel.putA (E:=reE nt M0 σ W) hp hx).putA (E:=reE nt M0 σ W) hq hy
 have hz:((#[p,q].zip #[v0,v1]).foldl (fun tmps (t,a)=>tmps.setIfInBounds t a) a0.tmps)=(a0.tmps.setIfInBounds p v0).setIfInBounds q v1:=by simp
 dsimp only;rw[hz];refine wpIn_mono (Z0r (ro:=some l) (n:=m) (d:=[]) hE hT assign _ _ σ ⟨(a0.tmps.setIfInBounds p v0).setIfInBounds q v1,[]⟩ W hoka rfl hRin ha) ?_
 rintro e a1 Wa ⟨hd1,he⟩
 cases e with
 |normal=>
  obtain⟨s1,σs,⟨r,hent⟩,hR1⟩:=he;obtain⟨σ1,hRa⟩:=Z0j hent _ σs _ Wa hE hR1;have hia:=hRa.inv hE;have hla:Wa.heap[l]? = some (.loop { state:=.ready,pending:=none,fn,tmps:=a0.tmps,params:=#[p,q],assign,body,defers:=D }):=(hRa.ext.block l (h.inv.m0 l hl).1 (h.inv.m0 l hl).2).trans h.lrec;refine⟨_,run_beginRound hla rfl,?_⟩;obtain⟨Wb,hWb⟩:∃Wb,Wb=Wa.putObj l (.loop { state:=.busy,pending:=none,fn,tmps:=a0.tmps,params:=#[p,q],assign,body,defers:=D }):=⟨_,rfl⟩;rw[<-hWb];have hab:FExt (fun b=>b=l) Wa Wb:=by rw[hWb];exact Z6t _
  have hsab:Same (Mof M0 σ1) Wa Wb:=hab.same.mono fun b _ e=>.inl (e▸hl)
  have hib:=Z76 hia hsab;have hlb:Wb.heap[l]? = some (.loop { state:=.busy,pending:=none,fn,tmps:=a0.tmps,params:=#[p,q],assign,body,defers:=D }):=by rw[hWb];exact World.putObj_heap_same (Z0e hla)
  have hRb:Rel P (reE nt M0 σ1 Wb) Sa σ1 ⟨a1.tmps,[]⟩ Wb:=Rel.to (ob2:=Sa.ob) hRa hia hsab (fun _=>Iff.rfl) (fun i o e=>by
   obtain⟨cs,rfl,hc⟩:=Z1x hfa e;refine⟨rfl,obj_at (hRa.ob i _ e) hc (fun _ h=>h) (fun b hb=>?_)⟩;rw[hWb];exact World.putObj_heap_other (fun e=>(hia.m0 l hl).2 (e▸hb)))
  have hEb:=reE_ok (nt:=nt) hib;refine wpIn_mono (Z0r (ro:=some l) (n:=m) (d:=[]) hEb hT body _ _ σ1 _ Wb hokb hd1 hRb hb) ?_;have fin:∀(ob2:List (Nat×AObj)) (σ2:Sig) (a2:Act) (W3:World) (rec':Loop),boxF ob2=true->(∀i,(getO ob2 i=none↔getO S.ob i=none))->Rel P (reE nt M0 σ1 Wb) ⟨[],ob2⟩ σ2 ⟨a2.tmps,[]⟩ W3->
    W3.heap[l]? = some (.loop { state:=.busy,pending:=none,fn,tmps:=a0.tmps,params:=#[p,q],assign,body,defers:=D })∧
    (RS P nt M0 σ a0 w0 l D rec' ⟨S.tm,ob2⟩ (W3.putObj l (.loop rec'))∧Same (Mof M0 σ) W (W3.putObj l (.loop rec'))):=by
   intro ob2 σ2 a2 W3 rec' hf2 hk2 hR2;have hl3:=(hR2.ext.block l (hib.m0 l hl).1 (hib.m0 l hl).2).trans hlb;have h34:FExt (fun b=>b=l) W3 (W3.putObj l (.loop rec')):=Z6t _;refine⟨hl3,h.goes hl hD hlD hw0 (FExt.mono (F:=fun b=>owned σ b∨b=l∨W.heap.size<=b) (FExt.trans (b:=Wa) (hRa.ext.mono fun b _ hb=>.inl hb) (FExt.trans (b:=Wb) (hab.mono fun b _ hb=>.inr (.inl hb)) (FExt.trans (b:=W3) (hR2.ext.mono fun b _ hb=>(hRa.own b hb).imp id .inr) (h34.mono fun b _ hb=>.inr (.inl hb))))) fun b hb hh=>hh.imp id fun h=>h.elim id fun h=>absurd h (by omega)) (World.putObj_heap_same (Z0e hl3)) rfl hk2 hf2 (fun i o e=>?_)⟩
   ·have e:getO ob2 i=some o:=e;obtain⟨cs,rfl,hc⟩:=Z1x hf2 e;refine obj_at (hR2.ob i _ e) hc (fun loc hloc=>?_) (fun b hb=>World.putObj_heap_other (fun e=>(h.inv.m0 l hl).2 (e▸hb)));have hSi:getO S.ob i≠none:=fun h0=>by rw[(hk2 i).2 h0]at e;cases e
    have hhi':=hhi i hSi;obtain⟨o0,ho0⟩:=Option.ne_none_iff_exists'.1 hSi;obtain⟨cs0,rfl,_⟩:=Z1x hf ho0;obtain⟨loc0,hl0,_⟩:=h.rel.ob i _ ho0;obtain⟨oa,hoa⟩:=Option.ne_none_iff_exists'.1 (hka i hSi);obtain⟨csa,rfl,_⟩:=Z1x hfa hoa;obtain⟨loc1,hl1,_⟩:=hRa.ob i _ hoa;have e1:loc1=loc0:=(hRa.pn i loc0 (by show pinOf σ i=_;unfold pinOf;rw[qK hhi'];exact hl0)).2 loc1 hl1;have e2:loc=loc1:=(hR2.pn i loc1 (by show pinOf σ1 i=_;unfold pinOf;rw[qK hhi'];exact hl1)).2 loc hloc;rw[e2,e1];exact hl0
  rintro e a2 W3 ⟨_,he⟩
  cases e with
  |normal=>
   obtain⟨s2,σt,⟨hG,r2,hent2⟩,hR2⟩:=he;obtain⟨σ2,hR2⟩:=Z0j hent2 _ σt _ W3 hEb hR2;obtain⟨hl3,hrs,hsm⟩:=fin o1 σ2 a2 W3 _ hf1 hk1 hR2;exact⟨_,_,run_endRound none hl3,hsm,.inl ⟨rfl,hG,hrs⟩⟩
  |ret=>
   obtain⟨s2,σt,⟨hC,r2,hent2⟩,hR2⟩:=he;obtain⟨σ2,hR2⟩:=Z0j hent2 _ σt _ W3 hEb hR2;obtain⟨hl3,hrs,hsm⟩:=fin ox σ2 a2 W3 _ hfx hkx hR2;exact⟨_,_,run_endRound (some .ret) hl3,hsm,.inr ⟨rfl,hC,hrs⟩⟩
  |exit i=>obtain⟨_,_,h,_⟩:=he;exact h.elim
  |goto t=>exact he.elim
  |panic c=>exact he.elim
  |outgrown=>exact he.elim
 |exit i=>obtain⟨_,_,h,_⟩:=he;exact h.elim
 |ret=>obtain⟨_,_,h,_⟩:=he;exact h.elim
 |goto t=>exact he.elim
 |panic c=>exact he.elim
 |outgrown=>exact he.elim
def Yields(P:Program)(g:FuncId)(caps:Array Value)(M:Nat->Prop)(N:Nat)(xs:Nat->PV×PV)(W:World):Prop:=
 ∀(l:Nat) (J:Nat->World->Prop) (Jx:World->Prop),J 0 W->(∀k A B,J k A->FExt (fun _=>False) A B->J k B)->(∀A B,Jx A->FExt (fun _=>False) A B->Jx B)->
  (∀k A vals,k<N->J k A->vals.size=2->PR A M (xs k).1 (vals.getD 0 undef)->PR A M (xs k).2 (vals.getD 1 undef)->
   ∃fn' tmps assign' body',(Instr.yield l vals).run P A = .ok (.round l fn' tmps assign' body') A∧RoundIn (WF none) 0 P l fn' tmps assign' body' A (fun e B=>Same M A B∧((e = .returned (.bool true)∧J (k+1) B)∨(e = .returned (.bool false)∧Jx B))))->
  Calls P g (#[.func (.yield l) #[] #[]]++caps) W (fun e B=>∃v,e = .returned v∧(J N B∨Jx B))
theorem Zt9(hT:T.ok P){nt:Nat}{M0 F0:Nat->Prop}{w0:World}{pin:Nat->Option Loc}{σ:Sig}{a:Act}{w:World}{d:List Deferred}{Q:Exit->Act->World->Prop}{g:Operand}{gf:FuncId}{caps:Array Value}{p q:Tmp}{assign body:Code}{tm:List (Nat×AV)}{N:Nat}{xs:Nat->PV×PV}{ob:Nat->List (Nat×AObj)}{Sa:Nat->AState}{ox:Nat->List (Nat×AObj)}{G C:Nat->Prop}
  (hE:FEnv.ok ⟨nt,fun _=>False,M0,F0,w0,pin⟩) (hd:a.defers=d) (hR:Rel P ⟨nt,fun _=>False,M0,F0,w0,pin⟩ ⟨tm,ob 0⟩ σ ⟨a.tmps,[]⟩ w) (hg:a.eval g = .func (.func gf) #[] caps) (hc:∀(vals:Array Value) (w:World),(callFunc gf vals).run P w = .ok (.enter gf vals) w)
  (hY:∀M W,(∀b,b<w.heap.size->M b->Mof M0 σ b)->(∀b,M b->b<W.heap.size)->Glob W M->FExt (fun _=>False) w W->Yields P gf caps M N xs W)
  (hf:∀k,k<=N->boxF (ob k)=true) (hfa:∀k,k<N->boxF (Sa k).ob=true) (hfx:∀k,k<N->boxF (ox k)=true) (hG0:G 0) (hhi:∀i,getO (ob 0) i≠none->900000<=i)
  (hk:∀k,k<=N->∀i,(getO (ob k) i=none↔getO (ob 0) i=none)) (hka:∀k,k<N->∀i,getO (ob 0) i≠none->getO (Sa k).ob i≠none) (hkx:∀k,k<N->∀i,(getO (ox k) i=none↔getO (ob 0) i=none))
  (hp:p<nt) (hq:q<nt) (hoka:okX assign=true) (hokb:okX body=true)
  (ha:∀k,k<N->awp P T nt assign ⟨(q,.pv (xs k).2) ::(p,.pv (xs k).1)::tm,ob k⟩ (normQ (Sa k))) (hb:∀k,k<N->G k->awp P T nt body (Sa k) (roundQ (G (k+1)) (C k) (ob (k+1)) (ox k)))
  (hdone:∀(M1:Nat->Prop) (D:Nat) (W:World),G N->(∀b,M0 b->M1 b)->M1 D->w.heap.size<=D->W.heap[D]? = some (.deferred (some []))->Inv (fun _=>False) M1 σ W->Rel P (reE nt M1 σ W) ⟨tm,ob N⟩ σ ⟨a.tmps,[]⟩ W->FExt (owned σ) w W->Q .normal ⟨a.tmps,{ target:=.collected D,args:=#[] } :: d⟩ W)
  (hstop:∀(M1:Nat->Prop) (D:Nat) (W:World) (k:Nat),k<N->C k->(∀b,M0 b->M1 b)->M1 D->w.heap.size<=D->W.heap[D]? = some (.deferred (some []))->Inv (fun _=>False) M1 σ W->Rel P (reE nt M1 σ W) ⟨tm,ox k⟩ σ ⟨a.tmps,[]⟩ W->FExt (owned σ) w W->Q .ret ⟨a.tmps,{ target:=.collected D,args:=#[] } :: d⟩ W) :
  (Code.rangeFunc g #[p,q] assign body).wpIn (WF none) n P Q a w:=by
 refine wpIn_rangeFunc ?_;intro fn _;obtain⟨rec,hrec⟩:∃rec:LoopState->Option Code->Loop,rec=fun st pe=>{ state:=st,pending:=pe,fn,tmps:=a.tmps,params:=#[p,q],assign,body,defers:=w.heap.size }:=⟨_,rfl⟩
 obtain⟨W1,hW1⟩:∃W1,W1=(w.alloc (.deferred (some []))).alloc (.loop (rec .ready none)):=⟨_,rfl⟩;have hx1:FExt (fun _=>False) w W1:=by
  rw[hW1];refine FExt.trans (b:=w.alloc (.deferred (some []))) ?_ ?_
  ·exact⟨rfl,rfl,rfl,(Z2o (fun _=>False) _ _).1,fun b hb _=>Z12 _ _ b hb,qL _⟩
  ·exact⟨rfl,rfl,rfl,(Z2o (fun _=>False) _ _).1,fun b hb _=>Z12 _ _ b hb,qL _⟩
 have hsz1:W1.heap.size=w.heap.size+2:=by rw[hW1];simp
 have hl1:W1.heap[w.heap.size+1]? = some (.loop (rec .ready none)):=by
  rw[hW1];have:=Z0g (w.alloc (.deferred (some []))) (.loop (rec .ready none));rwa[World.size_alloc]at this
 have hD1:W1.heap[w.heap.size]? = some (.deferred (some [])):=by
  rw[hW1,Z12 _ _ _ (by simp)];exact Z0g w _
 have hi:=hR.inv hE;obtain⟨M1,hM1⟩:∃M1:Nat->Prop,M1=fun b=>M0 b∨b=w.heap.size∨b=w.heap.size+1:=⟨_,rfl⟩
 have hMl:M1 (w.heap.size+1):=by rw[hM1];exact .inr (.inr rfl)
 have hMD:M1 w.heap.size:=by rw[hM1];exact .inr (.inl rfl)
 have hMM:∀b,M0 b->M1 b:=fun b hb=>by rw[hM1];exact .inl hb
 have hback:∀b,b<w.heap.size->Mof M1 σ b->Mof M0 σ b:=fun b hb hm=>by
  rw[hM1]at hm;rcases hm with(hm|hm|hm)|hm
  ·exact .inl hm
  ·omega
  ·omega
  ·exact .inr hm
 have hi1:Inv (fun _=>False) M1 σ W1:=by
  refine⟨hi.sep,fun b hb=>qD (hi.lt b hb) hx1.size,fun b hb=>?_,fun _ h=>h.elim,hi.gl.mono (hx1.same.mono fun _ _ h=>h.elim) hback⟩;rw[hM1]at hb;rcases hb with hb|hb|hb
  ·exact⟨qD (hi.m0 b hb).1 hx1.size,(hi.m0 b hb).2⟩
  ·exact⟨by omega,fun ho=>by have:=hi.lt b ho;omega⟩
  ·exact⟨by omega,fun ho=>by have:=hi.lt b ho;omega⟩
 have hR1:Rel P (reE nt M1 σ W1) ⟨tm,ob 0⟩ σ ⟨a.tmps,[]⟩ W1:=by
  refine⟨hR.sz,rfl,fun t=>(hR.tm t).mono (hx1.same.mono fun _ _ h=>h.elim) hback (fun _ h=>h.elim) (fun _ _ _ e=>e),fun i o e=>?_,hR.nob,hR.wt,hR.wo,hR.sep,fun b hb=>.inl hb,FExt.refl _ _,fun l loc e=>?_⟩
  ·have e:getO (ob 0) i=some o:=e;obtain⟨cs,rfl,hcs⟩:=Z1x (hf 0 (qe _)) e;exact obj_at (hR.ob i _ e) hcs (fun _ h=>h) (fun b hb=>hx1.block b (hi.lt b hb) id)
  ·have e:pinOf σ l=some loc:=e;unfold pinOf at e
   split at e
   ·exact⟨fun h=>(by rw[hR.nob l h]at e;cases e),fun loc' e'=>qN (e'.symm.trans e)⟩
   ·cases e
 have h0:RS P nt M1 σ ⟨a.tmps,[]⟩ w (w.heap.size+1) w.heap.size (rec .ready none) ⟨tm,ob 0⟩ W1:=⟨hR1,hi1,hl1,hD1,hx1.mono fun _ _ h=>h.elim⟩;refine⟨w.heap.size+1,[{ target:=.collected w.heap.size,args:=#[] }],W1,{ target:=.fn (.func gf) caps,args:=#[.func (.yield (w.heap.size+1)) #[] #[]] },W1,gf,
  #[.func (.yield (w.heap.size+1)) #[] #[]]++caps,W1,?_,?_,fun _ _=>trivial,?_,fun h=>(by cases h),?_⟩
 ·rw[hW1,hrec];exact run_enterLoop_outer _ _ _ _ _
 ·simp only[resolve,hg];simp[go_sem]
 ·simp[invoke,go_sem,hc]
 ·refine callsIn_wf.2 ((hY (Mof M1 σ) W1 hback (fun b hb=>hb.elim (fun h=>(hi1.m0 b h).1) (hi1.lt b)) hi1.gl hx1 (w.heap.size+1)
   (fun k W=>RS P nt M1 σ ⟨a.tmps,[]⟩ w (w.heap.size+1) w.heap.size (rec .ready none) ⟨tm,ob k⟩ W∧k<=N∧G k)
   (fun W=>∃k,k<N∧C k∧RS P nt M1 σ ⟨a.tmps,[]⟩ w (w.heap.size+1) w.heap.size (rec .done (some .ret)) ⟨tm,ox k⟩ W)
   ⟨h0,qe _,hG0⟩ (fun k A B h hx=>⟨h.1.step hMl hMD (by omega) (by omega) (hf k h.2.1) hx,h.2⟩) (fun A B h hx=>by
    obtain⟨k,h1,h2,h3⟩:=h;exact⟨k,h1,h2,h3.step hMl hMD (by omega) (by omega) (hfx k h1) hx⟩) (fun k A vals hkN h hv hx hy=>?_)).mono ?_)
  ·obtain⟨h,-,hGk⟩:=h;rw[hrec]at h;obtain⟨fn',tmps,as',bd',hyl,hr⟩:=Ztm (m:=0) hT h hMl hMD (by omega) (by omega) (hf k (by omega)) (hfa k hkN) (hf (k+1) (by omega)) (hfx k hkN) (fun i hi'=>hhi i fun h=>hi' ((hk k (by omega) i).2 h)) (fun i hi'=>hka k hkN i fun h=>hi' ((hk k (by omega) i).2 h))
    (fun i=>(hk (k+1) (by omega) i).trans (hk k (by omega) i).symm) (fun i=>(hkx k hkN i).trans (hk k (by omega) i).symm) hv hx hy hp hq hoka hokb (ha k hkN) (hb k hkN hGk)
   refine⟨fn',tmps,as',bd',hyl,hr.mono fun e B hB=>?_⟩;rw[hrec];exact⟨hB.1,hB.2.imp (fun h=>⟨h.1,h.2.2,by omega,h.2.1⟩) (fun h=>⟨h.1,k,hkN,h.2⟩)⟩
  ·rintro e B ⟨v,rfl,hB⟩
   have last:∀(st:LoopState) (pe:Option Code) (ob2:List (Nat×AObj)),boxF ob2=true->RS P nt M1 σ ⟨a.tmps,[]⟩ w (w.heap.size+1) w.heap.size (rec st pe) ⟨tm,ob2⟩ B->
     RS P nt M1 σ ⟨a.tmps,[]⟩ w (w.heap.size+1) w.heap.size { rec st pe with state:=.exhausted } ⟨tm,ob2⟩ (B.putObj (w.heap.size+1) (.loop { rec st pe with state:=.exhausted })):=fun st pe ob2 hf2 h=>
    (h.goes hMl hMD (by omega) (by omega) ((Z6t _).mono fun _ _ h=>.inr h) (World.putObj_heap_same (Z0e h.lrec)) rfl (fun _=>Iff.rfl) hf2 (fun i o e=>by
     have e:getO ob2 i=some o:=e;obtain⟨cs,rfl,hc⟩:=Z1x hf2 e;exact obj_at (h.rel.ob i _ e) hc (fun _ h=>h) (fun b hb=>World.putObj_heap_other (fun e=>(h.inv.m0 _ hMl).2 (e▸hb))))).1
   rw[<-hd]at hdone hstop;rcases hB with⟨hB,_,hGN⟩|⟨k,hkN,hCk,hB⟩
   ·have h2:=last _ _ _ (hf N (qL _)) hB;have he:=run_endLoop (P:=P) hB.lrec (by rw[hrec];simp);generalize hW2:B.putObj (w.heap.size+1) (.loop { rec .ready none with state:=.exhausted })=W2 at he h2;refine⟨_,W2,he,?_⟩;rw[show(rec .ready none).pending=none from by rw[hrec]];exact hdone M1 w.heap.size _ hGN hMM hMD (qL _) h2.dfr h2.inv h2.rel h2.ext
   ·have h2:=last _ _ _ (hfx k hkN) hB;have he:=run_endLoop (P:=P) hB.lrec (by rw[hrec];simp);generalize hW2:B.putObj (w.heap.size+1) (.loop { rec .done (some .ret)with state:=.exhausted })=W2 at he h2;refine⟨_,W2,he,?_⟩;rw[show(rec .done (some .ret)).pending=some .ret from by rw[hrec]];exact wpIn_ret (hstop M1 w.heap.size _ k hkN hCk hMM hMD (qL _) h2.dfr h2.inv h2.rel h2.ext)
def contQ(K:AState->Prop):AExit->AState->Prop
 | .normal,s=>K s
 |_,_=>False
theorem pre3(hE:E.ok)(hT:T.ok P){d:List Deferred}{K:AState->Prop}{x y z u t:Code}{s:AState}{σ:Sig}{a:Act}{w:World}{Q:Exit->Act->World->Prop}(ho:okX (.seq x (.seq y z))=true)(hd:a.defers=d)(hR:Rel P E s σ ⟨a.tmps,[]⟩ w)
  (h:awp P T E.nt (.seq x (.seq y z)) s (contQ K)) (hK:∀s σ a w,K s->a.defers=d->Rel P E s σ ⟨a.tmps,[]⟩ w->u.wpIn (WF ro) n P (Exit.then (t.wpIn (WF ro) n P Q) Q) a w) :
  (Code.seq x (.seq y (.seq (.seq z u) t))).wpIn (WF ro) n P Q a w:=by
 simp only[okX,qc]at ho;obtain⟨hx,hy,hz⟩:=ho;refine wpIn_seq (wpIn_mono (Z0r hE hT x s _ σ a w hx hd hR h) ?_)
 rintro e a1 w1 ⟨hd1,he⟩
 cases e with
 |normal=>
  obtain⟨s1,σ1,h1,hR1⟩:=he;refine wpIn_seq (wpIn_mono (Z0r hE hT y s1 _ σ1 a1 w1 hy hd1 hR1 h1) ?_)
  rintro e a2 w2 ⟨hd2,he⟩
  cases e with
  |normal=>
   obtain⟨s2,σ2,h2,hR2⟩:=he;refine wpIn_seq (wpIn_seq (wpIn_mono (Z0r hE hT z s2 (contQ K) σ2 a2 w2 hz hd2 hR2 h2) ?_))
   rintro e a3 w3 ⟨hd3,he⟩
   cases e with
   |normal=>
    obtain⟨s3,σ3,h3,hR3⟩:=he;refine wpIn_mono (hK s3 σ3 a3 w3 h3 hd3 hR3) fun e a w he=>?_
    cases e<;>exact he
   |exit i=>obtain⟨_,_,h,_⟩:=he;exact h.elim
   |ret=>obtain⟨_,_,h,_⟩:=he;exact h.elim
   |goto t=>exact he.elim
   |panic c=>exact he.elim
   |outgrown=>exact he.elim
  |exit i=>obtain⟨_,_,h,_⟩:=he;exact h.elim
  |ret=>obtain⟨_,_,h,_⟩:=he;exact h.elim
  |goto t=>exact he.elim
  |panic c=>exact he.elim
  |outgrown=>exact he.elim
 |exit i=>obtain⟨_,_,h,_⟩:=he;exact h.elim
 |ret=>obtain⟨_,_,h,_⟩:=he;exact h.elim
 |goto t=>exact he.elim
 |panic c=>exact he.elim
 |outgrown=>exact he.elim
theorem Z91(hE:E.ok)(hT:T.ok P){ops:Array Oper}{K:AState->Prop}{d:List Deferred}{tl:List Nat}{Q:Exit->Act->World->Prop}(i m:Nat)(hm:i+m<=ops.size)
  (hQ:∀s σ a w,K s->Rel P E s σ ⟨a.tmps,[]⟩ w->a.defers=d->wpOpsIn (WF ro) n P ops Q tl a w) {s:AState} {σ:Sig} {a:Act} {w:World} (hnd:((ops.toList.drop i).take m).all notDefer=true) (hd:a.defers=d) (hR:Rel P E s σ ⟨a.tmps,[]⟩ w)
  (h:arun P T E.nt ops.toList ((ops.toList.drop i).take m) s K):wpOpsIn (WF ro) n P ops Q (List.range' i m++tl) a w:=by
 have hl:((ops.toList.drop i).take m).length=m:=by simp;omega
 have:=Z6j (ro:=ro) (n:=n) (ops:=ops) (tl:=tl) (Q:=Q) hE hT hQ ((ops.toList.drop i).take m) i s σ a w (fun j hj=>by
  rw[hl]at hj;rw[List.getElem?_take_of_lt hj,qA,Array.getElem?_toList]) hnd hd hR h
 rwa[hl]at this
theorem Zx9{F:Fence}{ops:Array Oper}{Q:Exit->Act->World->Prop}{i:Nat}{rest:List Nat}{o:Oper}{a:Act}{w:World}(h:ops[i]? = some o)(hg:o.guard=none)(h2:o.wpIn F n P a w (wpOpsIn F n P ops Q rest) Q):wpOpsIn F n P ops Q (i::rest) a w:=by
 simp only[wpOpsIn,h,Region.wanted,hg,if_true];exact h2
theorem Zxb{m l:Nat}{o:Oper}{a:Act}{w:World}{K:Act->World->Prop}{Q:Exit->Act->World->Prop}{fo:Operand}{args:Array Operand}{ts:Array TypeId}(ho:o.op = .call { callee:=.value fo,args:=args,argTypes:=ts })(hf:a.eval fo = .func (.yield l) #[] #[])
  {vals:Array Value} (hv:args.map a.eval=vals) {R:Ending->World->Prop} (hy:∃fn' tmps assign' body',(Instr.yield l vals).run P w = .ok (.round l fn' tmps assign' body') w∧RoundIn (WF none) m P l fn' tmps assign' body' w R)
  (hK:∀e w',R e w'->∃v,e = .returned v∧K (a.put o.dst v) w'):o.wpIn (WF none) (m+1) P a w K Q:=by
 subst hv;obtain⟨fn',tmps,assign',body',h1,h2⟩:=hy;refine⟨fun _ _=>trivial,?_⟩;have h3:((o.semAt (WF none).round a.eval).run P w) = .ok (.round l fn' tmps assign' body') w:=by
  rw[Oper.semAt_eq _ _ _ (fun c e=>by rw[ho]at e;cases e)];simp[execOp,ho,resolve,Deferred.ofValue,hf,invoke,h1]
 rw[h3];refine⟨fun h=>(by cases h),h2.mono fun e w' he=>?_⟩;obtain⟨v,rfl,hv⟩:=hK e w' he;exact hv
end
theorem Z1p(b:Nat):¬owned (fun _=>none) b:=fun⟨_,_,h,_⟩=>by cases h
theorem Zfc{M:Nat->Prop}{W:World}(hM:∀b,M b->b<W.heap.size)(hg:Glob W M):Inv (fun _=>False) M (fun _=>none) W:=
 ⟨fun _ _ _ _ _ e=>(by cases e),fun b h=>absurd h (Z1p b),fun b h=>⟨hM b h,Z1p b⟩,fun _ h=>h.elim,hg.mono (Same.refl _ _) fun b _ h=>h.elim id fun h=>absurd h (Z1p b)⟩
theorem Zh6{P:Program}{nt:Nat}{args:List AV}{vals:Array Value}{M:Nat->Prop}{W:World}(hl:vals.size=args.length)(hn:args.length<=nt)(hp:noRefs args=true)
  (hA:∀i x,args[i]? = some x->AR P W (fun _=>False) M (fun _=>none) x (vals.getD i undef)):Rel P (reE nt M (fun _=>none) W) ⟨argTm 0 args,[]⟩ (fun _=>none) ⟨vals++Array.replicate (nt-vals.size) undef,[]⟩ W:=by
 have hget:∀t x,getT (argTm 0 args) t=x->x = .junk∨args[t]? = some x:=by
  intro t x e;rw[Z1v,qJ (by omega)]at e;cases ha:args[t-0]? with
  |none=>rw[ha]at e;exact .inl e.symm
  |some y=>rw[ha]at e;simp at e ha;subst e;exact .inr rfl
 refine⟨by simp;omega,rfl,fun t=>?_,fun l o e=>by simp[getO]at e,fun _ _=>rfl,fun t l hl'=>?_,fun i o e=>by simp[getO]at e,fun l l' loc loc' b e=>(by cases e),fun b hb=>.inl hb,FExt.refl _ _,fun l loc e=>?_⟩
 ·rcases hget t _ rfl with e|e
  ·rw[e];exact .junk _
  have hlt:t<args.length:=(qf.1 e).1;have h2:=hA t _ e;rw[Z0b (by omega)];exact h2.mono (Same.refl _ _) (fun b _ h=>h.elim id fun h=>absurd h (Z1p b)) (fun _ h=>h.elim) (fun _ _ _ e=>e)
 ·rcases hget t _ rfl with e|e
  ·rw[e]at hl';simp[refs]at hl'
  rw[Z21 hp t _ e]at hl';simp at hl'
 have e:pinOf (fun _=>none) l=some loc:=e;unfold pinOf at e
 split at e<;>cases e
def endQ(K:AState->Prop):AExit->AState->Prop
 | .exit _,_=>False
 | .normal,s=>K s
 | .ret,s=>K s
def exit0Q(K:AState->Prop):AExit->AState->Prop
 | .exit 0,s=>K s
 |_,_=>False
def fnQ(fn:Func)(g:FuncId)(caps:List PV)(s:AState):Prop:=
 match s with
 |⟨tm,ob⟩=>match fn.results.toList with
  | [.tmp t]=>borrowV (getO ob) (getT tm t) = .fn g (caps.map .pv)
  |_=>False
def fnE(fn:Func)(g:FuncId)(caps:List PV):AExit->AState->Prop
 | .exit _,_=>False
 | .normal,s=>fnQ fn g caps s
 | .ret,s=>fnQ fn g caps s
theorem AC.of_awp_fn{P:Program}{T:Tab}{f:FuncId}{fn:Func}{c:Code}{args:List AV}{g:FuncId}{caps:List PV}(hT:T.ok P)(hm:P.follows .mixedOrders=true)(hcall:∀(vals:Array Value) (w:World),(callFunc f vals).run P w = .ok (.enter f vals) w)
  (hf:P.funcs[f]? = some fn) (hb:fn.body=some c) (hn:Nat.ble args.length fn.ntmps=true) (hp:noRefs args=true) (h:awp P T fn.ntmps c ⟨argTm 0 args,[]⟩ (fnE fn g caps)):AC P f args [] (.fn g (caps.map .pv)) []:=by
 refine⟨hcall,fun St M0 σ w vals hi hσ _ hl hA=>?_⟩;have hσ':σ=fun _=>none:=funext fun l=>hσ l rfl
 subst hσ';have hown:∀b,¬owned (fun _=>none) b:=fun b ⟨l,loc,h,_⟩=>by cases h
 have hle:=qi hn;have hE:FEnv.ok ⟨fn.ntmps,St,M0,fun _=>False,w,fun _=>none⟩:=⟨fun b hb=>⟨(hi.m0 b hb).1,id⟩,fun b hb=>⟨(hi.st b hb).1,id⟩,hi.gl.mono (Same.refl _ w) (fun b _ hb=>.inl (hb.elim id False.elim)),fun _ _ e=>by cases e⟩;have hget:∀t x,getT (argTm 0 args) t=x->x = .junk∨args[t]? = some x:=by
  intro t x e;rw[Z1v,qJ (by omega)]at e;cases ha:args[t-0]? with
  |none=>rw[ha]at e;exact .inl e.symm
  |some y=>rw[ha]at e;simp at e ha;subst e;exact .inr rfl
 have hR:Rel P ⟨fn.ntmps,St,M0,fun _=>False,w,fun _=>none⟩ ⟨argTm 0 args,[]⟩ (fun _=>none) { tmps:=vals++Array.replicate (fn.ntmps-vals.size) undef,defers:=[] } w:=by
  refine⟨by simp;omega,rfl,fun t=>?_,fun l o e=>by simp[getO]at e,fun _ _=>rfl,fun t l hl'=>?_,fun i o e=>by simp[getO]at e,fun l l' loc loc' b e=>(by cases e),fun b hb=>absurd hb (hown b),FExt.refl _ w,fun _ _ e=>by cases e⟩
  ·rcases hget t _ rfl with e|e
   ·rw[e];exact .junk _
   have:=hA t _ e;have hlt:t<args.length:=(qf.1 e).1;rw[Z0b (by omega)];exact this
  rcases hget t _ rfl with e|e
  ·rw[e]at hl';simp[refs]at hl'
  rw[Z21 hp t _ e]at hl';simp at hl'
 refine calls_of_wp hf hb (wp_mono (Z13 hE hT hm c _ _ _ _ w hR h) (fun e a' w' he=>?_));have fin:(∃s σ,fnQ fn g caps s∧Rel P ⟨fn.ntmps,St,M0,fun _=>False,w,fun _=>none⟩ s σ a' w')->a'.defers = []∧∃v,(results fn a'.tmps).run P w' = .ok v w'∧∃v_1 σ',Ending.returned v = .returned v_1∧Post P St M0 (fun _=>none) w [] (.fn g (caps.map .pv)) σ' v_1 w':=by
  rintro ⟨⟨tm,ob⟩,σ,hq,hR'⟩
  unfold fnQ at hq;simp only at hq
  split at hq
  ·rename_i t hr;refine⟨hR'.df,a'.tmps.getD t undef,by rw[Z3p hr];simp[rvRun],_,fun _=>none,rfl,?_⟩;have hA:=Z45 (ob:=getO ob) (L:=refs (getT tm t)) (hR'.inv hE) (hR'.tm t) (fun l hl=>hl) (fun l _ obj e=>hR'.ob l obj e);rw[hq]at hA;refine⟨?_,fun l o e=>by simp[getO]at e,fun _ _=>rfl,fun l loc loc' e=>(by cases e),fun l l' loc loc' b e=>(by cases e),fun b hb=>absurd hb (hown b),hR'.ext.mono (fun _ _ h=>h.elim)⟩;generalize a'.tmps.getD t undef=v at hA;cases hA with
   |fn _ _ vs hl h=>
    refine .fn _ _ _ hl fun i c e=>?_
    have h2:=h i c e;obtain⟨p,hp,rfl⟩:∃p,caps[i]? = some p∧.pv p=c:=by simpa using e
    exact .pv _ _ ((arg_pv h2).mono (Same.refl _ w') (fun b _ hb=>.inl (hb.elim id fun h=>absurd h (hown b))))
  exact hq.elim
 cases e with
 |normal=>exact fin he
 |ret=>exact fin he
 |exit i=>obtain⟨s,σ,hq,_⟩:=he;exact hq.elim
 |goto l=>exact he.elim
 |panic c=>exact he.elim
 |outgrown=>exact he.elim
theorem Zfx{P:Program}{T:Tab}{nt n:Nat}{fn:Func}{St M0 M1:Nat->Prop}{σ2 σ3:Sig}{w W W':World}{s:AState}{res:PV}{a':Act}{D:Nat}(hT:T.ok P)(hiW:Inv (fun _=>False) M1 σ2 W)(hR:Rel P (reE nt M1 σ2 W) s σ3 ⟨a'.tmps,[]⟩ W')(hbox:boxF s.ob=true)
  (hq:resQ T fn.results.toList res s) (hfl:flatP res=true) (hD:M1 D) (hDw:w.heap.size<=D) (hWD:W.heap[D]? = some (.deferred (some []))) (hd:a'.defers = [{ target:=.collected D,args:=#[] }]) (hx:FExt (fun b=>w.heap.size<=b) w W) (hown:∀b,owned σ2 b->w.heap.size<=b) :
  LeavesInM (WF none) n P fn a'.tmps (fun e w'=>∃v σ',e = .returned v∧Post P St M0 (fun _=>none) w [] (.pv res) σ' v w') a'.defers .returning W':=by
 have hE:=reE_ok (nt:=nt) hiW;have hi3:=hR.inv hE;have hD':W'.heap[D]? = some (.deferred (some [])):=(hR.ext.block D (hiW.m0 D hD).1 (hiW.m0 D hD).2).trans hWD;rw[hd];refine⟨by simp,.inl ⟨D,_,rfl,run_takeDeferred hD',?_⟩⟩;have hput:FExt (fun b=>b=D) W' (W'.putObj D (.deferred none)):=Z6t _;have hs:Same (Mof M1 σ3) W' (W'.putObj D (.deferred none)):=hput.same.mono fun b _ e=>.inl (e▸hD)
 have hR2:Rel P (reE nt M1 σ3 (W'.putObj D (.deferred none))) ⟨s.tm,s.ob⟩ σ3 ⟨a'.tmps,[]⟩ (W'.putObj D (.deferred none)):=Rel.to hR hi3 hs (fun _=>Iff.rfl) (fun i o e=>by
  obtain⟨cs,rfl,hc⟩:=Z1x hbox e;exact⟨rfl,obj_at (hR.ob i _ e) hc (fun _ h=>h) (fun b hb=>World.putObj_heap_other (fun e=>(hi3.m0 D hD).2 (e▸hb)))⟩)
 obtain⟨v,hr,hv⟩:=Z7k (reE_ok (Z76 hi3 hs)) hT hR2 hq;refine⟨v,hr,v,fun _=>none,rfl,.pv _ _ (hv.flat hfl),fun l o e=>by simp[getO]at e,fun _ _=>rfl,fun l loc loc' e=>(by cases e),fun l l' loc loc' b e=>(by cases e),fun b hb=>absurd hb (Z1p b),?_⟩;have h:=hx.trans ((hR.ext.mono (F':=fun b=>w.heap.size<=b) fun b _ hb=>hown b hb).trans (hput.mono fun b _ e=>e▸hDw));exact h.mono fun b hb hh=>absurd hh (by omega)
end Go.Abs
namespace Go.Abs
open Go.Proofs
set_option maxRecDepth 10000
theorem Zjr(v:Vw)(ks:List Ex):AC Tryz.prog 212 [.pv (.agg (cVw v)),.pv (roL 11 cEx ks)] [] (.fn 248 ([.cell [roL 11 cEx ks],.cell (cVw v)].map .pv)) []:=by
 refine AC.of_awp_fn (T:=T) T_ok hm Tryz.call212 Tryz.func212 rfl rfl rfl ?_
 conv=>whnf
 rfl
def kidS(v:Vw)(ks:List Ex)(l k:Nat):AState:=⟨[(0,.pv (.val (.func (.yield l) #[] #[]))),(2,.pv (.cell (cVw v))),(6,.pv (roL 11 cEx ks)),(7,.pv (vint ks.length)),(8,.pv (vint k))],[]⟩
def kidX(v:Vw)(ks:List Ex)(k:Nat):PV×PV:=(.agg (cVal (fndV (evR v (ks.getD k default))).1),vbool (fndV (evR v (ks.getD k default))).2)
def slotN:Value->Nat
 | .int _ i=>i.toNat
 |_=>0
theorem Zr0(v:Vw)(ks:List Ex)(hl:smallL ks)(ih:∀i,i<ks.length->AC Tryz.prog 98 [.pv (.agg (cVw v)),.pv (.agg (cEx (ks.getD i default)))] [] (.pv (.tup [.agg (cVal (fndV (evR v (ks.getD i default))).1),vbool (fndV (evR v (ks.getD i default))).2])) [])
  {M:Nat->Prop} {W:World} {c0 c1:Value} (hM:∀b,M b->b<W.heap.size) (hg:Glob W M) (h0:PR W M (.cell [roL 11 cEx ks]) c0) (h1:PR W M (.cell (cVw v)) c1):Yields Tryz.prog 248 #[c0,c1] M ks.length (kidX v ks) W:=by
 have hl2:ks.length<=1048576:=hl;intro l J Jx hJ0 hJ hJx hY;refine(callsIn_wf (n:=1) (ro:=none)).1 (callsIn_of_wp Tryz.func248 rfl trivial ?_);have hi0:=Zfc hM hg;have hR0:Rel Tryz.prog (reE 21 M (fun _=>none) W) ⟨argTm 0 [.pv (.val (.func (.yield l) #[] #[])),.pv (.cell [roL 11 cEx ks]),.pv (.cell (cVw v))],[]⟩ (fun _=>none) ⟨#[.func (.yield l) #[] #[]] ++ #[c0,c1]++Array.replicate (21-3) undef,[]⟩ W:=
  Zh6 rfl (qi rfl) rfl (fun i x e=>by
   match i,e with
   |0,e=>simp at e;subst e;exact .pv _ _ (.val _)
   |1,e=>simp at e;subst e;exact .pv _ _ h0
   |2,e=>simp at e;subst e;exact .pv _ _ h1
   |i+3,e=>simp at e)
 refine wpIn_seq (wpIn_mono (Z0r (ro:=none) (n:=1) (d:=[]) (reE_ok hi0) T_ok _ _ (contQ fun s=>∃r,entS r s (kidS v ks l 0)) _ _ _ rfl rfl hR0 ?_) ?_)
 ·conv=>whnf
  refine⟨[],?_⟩
  all_goals exact QD
 rintro e a1 w1 ⟨hd1,he⟩
 cases e with
 |normal=>
  obtain⟨s1,σ1,⟨r,hent⟩,hR1⟩:=he;obtain⟨σ1',hR1⟩:=Z0j hent _ σ1 _ w1 (reE_ok hi0) hR1;have hσ1:σ1'=fun _=>none:=funext fun i=>hR1.nob i rfl
  subst hσ1;have toR:∀ {k:Nat} {a:Act} {w A:World} {S:AState},S.ob = []->Inv (fun _=>False) M (fun _=>none) A->Rel Tryz.prog (reE 21 M (fun _=>none) A) S (fun _=>none) ⟨a.tmps,[]⟩ w->Inv (fun _=>False) M (fun _=>none) w∧Rel Tryz.prog (reE 21 M (fun _=>none) w) S (fun _=>none) ⟨a.tmps,[]⟩ w∧FExt (fun _=>False) A w:=by
   intro k a w A S hS hiA hR;have hx:FExt (fun _=>False) A w:=hR.ext.mono fun b _ h=>absurd h (Z1p b)
   have hiw:=hR.inv (reE_ok hiA);refine⟨hiw,?_,hx⟩;have:=Rel.to (ob2:=S.ob) hR hiw (Same.refl _ w) (fun _=>Iff.rfl) (fun i o e=>by rw[hS]at e;simp[getO]at e);exact this
  obtain⟨hi1,hR1,hx1⟩:=toR (k:=0) rfl hi0 hR1;have hJ1:=hJ 0 W w1 hJ0 hx1;clear hR0 hent hx1;refine wpIn_block (wpIn_loop (fun a w=>∃k,k<=ks.length∧J k w∧a.defers = []∧Inv (fun _=>False) M (fun _=>none) w∧Rel Tryz.prog (reE 21 M (fun _=>none) w) (kidS v ks l k) (fun _=>none) ⟨a.tmps,[]⟩ w) (fun a _=>ks.length-slotN (a.tmps.getD 8 undef)) ⟨0,qe _,hJ1,hd1,hi1,hR1⟩ ?_);clear hR1 hi1 hJ1 hd1 hJ0 hi0 h0 h1 hg hM
  rintro a w ⟨k,hk,hJk,hd,hi,hR⟩
  have hE:=reE_ok (nt:=21) hi;have hμ:slotN (a.tmps.getD 8 undef)=k:=by
   have h8:=hR.tm 8;rw[show(⟨a.tmps,[]⟩:Act).tmps.getD 8 undef = .int .i64 (k:Int)from pr_val (arg_pv h8)]at *;have:=pr_val (arg_pv h8);rw[this];show(k:Int).toNat=k
   omega
  rcases Nat.lt_or_ge k ks.length with hlt|hge
  ·refine wpIn_seq (wpIn_mono (Z0r (ro:=none) (n:=1) (d:=[]) hE T_ok _ _ (contQ fun s=>∃r,entS r s ⟨(9,.pv (.val (.bool true))) ::(kidS v ks l k).tm,[]⟩) _ _ _ rfl hd hR ?_) ?_)
   ·conv=>whnf
    refine⟨[],?_⟩;refine qa ?_ ?_
    ·exact PSub.sb_lit (qB (by omega))
    ·exact QD
   rintro e a2 w2 ⟨hd2,he⟩
   cases e with
   |normal=>
    obtain⟨s2,σ2,⟨r2,hent2⟩,hR2⟩:=he;obtain⟨σ3,hR2⟩:=Z0j hent2 _ σ2 _ w2 hE hR2;clear hent2;refine wpIn_seq (wpIn_cond_true (pr_val (arg_pv (hR2.tm 9))) (wpIn_skip ?_));refine wpIn_seq (wpIn_block (wpIn_seq (wpIn_mono (Z0r (ro:=none) (n:=1) (d:=[]) hE T_ok _ _ (contQ fun s=>∃r,entS r s ⟨(5,.ptr 5 0) ::(kidS v ks l k).tm,[(5,.pbox (cEx (ks.getD k default)))]⟩) _ _ _ rfl hd2 hR2 ?_) ?_)))
    ·conv=>whnf
     repeat(any_goals((first|refine QI ?_)<;>conv=>whnf))
     refine⟨[],?_⟩
     all_goals exact QD
    rintro e a3 w3 ⟨hd3,he⟩
    cases e with
    |normal=>
     obtain⟨s4,σ4,⟨r4,hent4⟩,hR3⟩:=he;obtain⟨σ5,hR3⟩:=Z0j hent4 _ σ4 _ w3 hE hR3;clear hent4 hR2;refine wpIn_seq (wpIn_region ?_);change wpOpsIn _ _ _ _ _ (List.range' 0 6 ++ [6,7]) _ _;refine Z91 (d:=[]) (K:=fun s=>∃r,entS r s ⟨(12,.pv (.val (.func (.yield l) #[] #[]))) ::(16,.pv (kidX v ks k).1) ::(17,.pv (kidX v ks k).2) ::(kidS v ks l k).tm,[]⟩) hE T_ok 0 6 (qi rfl) ?_ rfl hd3 hR3 ?_
     ·intro s5 σ6 a4 w4 hent hR4 hd4;obtain⟨r5,hent⟩:=hent;obtain⟨σ7,hR4⟩:=Z0j hent _ σ6 _ w4 hE hR4;have hσ7:σ7=fun _=>none:=funext fun i=>hR4.nob i rfl
      subst hσ7;clear hent hR3;have hi4:=hR4.inv hE;have hJ4:=hJ k w w4 hJk (hR4.ext.mono fun b _ h=>absurd h (Z1p b));have toM:∀ {p:PV} {x:Value},PR w4 (Mof M (fun _=>none)) p x->PR w4 M p x:=fun h=>h.mono (Same.refl _ _) fun b _ h=>.inl h
      have h16:PR w4 M (kidX v ks k).1 (a4.eval (.tmp 16)):=toM (arg_pv (hR4.tm 16));have h17:PR w4 M (kidX v ks k).2 (a4.eval (.tmp 17)):=toM (arg_pv (hR4.tm 17));refine Zx9 rfl rfl (Zxb (m:=0) rfl (pr_val (arg_pv (hR4.tm 12))) (by simp) (hY k w4 #[a4.eval (.tmp 16),a4.eval (.tmp 17)] hlt hJ4 rfl h16 h17) ?_)
      rintro e5 w5 ⟨hs,he5⟩
      have hs':Same (Mof M (fun _=>none)) w4 w5:=hs.mono fun b _ h=>.inl h
      have hi5:=Z76 hi4 hs';have hE5:=reE_ok (nt:=21) hi5;have hR5:∀b,Rel Tryz.prog (reE 21 M (fun _=>none) w5) ⟨(18,.pv (.val (.bool b))) ::(12,.pv (.val (.func (.yield l) #[] #[]))) ::(16,.pv (kidX v ks k).1) ::(17,.pv (kidX v ks k).2) ::(kidS v ks l k).tm,[]⟩ (fun _=>none) ⟨(a4.put (some 18) (.bool b)).tmps,[]⟩ w5:=fun b=>
       Rel.putA (E:=reE 21 M (fun _=>none) w5) (s:=⟨_,[]⟩) (Rel.to (ob2:=[]) hR4 hi4 hs' (fun _=>Iff.rfl) (fun i o e=>by simp[getO]at e)) (qi rfl) (.val _)
      rcases he5 with⟨rfl,hJ5⟩|⟨rfl,hJx5⟩
      ·refine⟨_,rfl,?_⟩;change wpOpsIn _ _ _ _ _ (List.range' 7 1 ++ []) _ _;refine Z91 (d:=[]) (K:=fun s=>∃r,entS r s ⟨(19,.pv (.val (.bool false))) ::(kidS v ks l k).tm,[]⟩) hE5 T_ok 7 1 (qi rfl) ?_ rfl hd4 (hR5 true) ?_
       ·intro s6 σ8 a6 w6 hent hR6 hd6;obtain⟨r6,hent⟩:=hent;obtain⟨σ9,hR6⟩:=Z0j hent _ σ8 _ w6 hE5 hR6;refine wpIn_cond_false (pr_val (arg_pv (hR6.tm 19))) (wpIn_skip ?_);refine wpIn_mono (Z0r (ro:=none) (n:=1) (d:=[]) hE5 T_ok _ _ (contQ fun s=>∃r,entS r s (kidS v ks l (k+1))) _ _ _ rfl hd6 hR6 ?_) ?_
        ·conv=>whnf
         repeat(any_goals((first|refine QW ?_)<;>conv=>whnf))
         refine⟨[],?_⟩
         all_goals exact QD
        rintro e a7 w7 ⟨hd7,he⟩
        cases e with
        |normal=>
         obtain⟨s7,σ10,⟨r7,hent7⟩,hR7⟩:=he;obtain⟨σ11,hR7⟩:=Z0j hent7 _ σ10 _ w7 hE5 hR7;have hσ11:σ11=fun _=>none:=funext fun i=>hR7.nob i rfl
         subst hσ11;obtain⟨hi7,hR7,hx7⟩:=toR (k:=0) rfl hi5 hR7;refine⟨⟨k+1,hlt,hJ _ _ _ hJ5 hx7,hd7,hi7,hR7⟩,?_⟩;rw[hμ,show slotN (a7.tmps.getD 8 undef)=k+1 from by
          have:=pr_val (arg_pv (hR7.tm 8));rw[this];show((k+1:Nat):Int).toNat=k+1
          omega]
         omega
        |exit i=>obtain⟨_,_,h,_⟩:=he;exact h.elim
        |ret=>obtain⟨_,_,h,_⟩:=he;exact h.elim
        |goto t=>exact he.elim
        |panic c=>exact he.elim
        |outgrown=>exact he.elim
       ·conv=>whnf
        refine⟨[],?_⟩;refine qa (PSub.sb_lit rfl) ?_
        all_goals exact QD
      ·refine⟨_,rfl,?_⟩;change wpOpsIn _ _ _ _ _ (List.range' 7 1 ++ []) _ _;refine Z91 (d:=[]) (K:=fun s=>∃r,entS r s ⟨(19,.pv (.val (.bool true))) ::(kidS v ks l k).tm,[]⟩) hE5 T_ok 7 1 (qi rfl) ?_ rfl hd4 (hR5 false) ?_
       ·intro s6 σ8 a6 w6 hent hR6 hd6;obtain⟨r6,hent⟩:=hent;obtain⟨σ9,hR6⟩:=Z0j hent _ σ8 _ w6 hE5 hR6;refine wpIn_cond_true (pr_val (arg_pv (hR6.tm 19))) (wpIn_ret ?_);have hx6:FExt (fun _=>False) w5 w6:=hR6.ext.mono fun b _ h=>absurd h (Z1p b)
        exact⟨hd6,_,results_none rfl _ _ _,_,rfl,.inr (hJx _ _ hJx5 hx6)⟩
       ·conv=>whnf
        refine⟨[],?_⟩;refine qa (PSub.sb_lit rfl) ?_
        all_goals exact QD
     ·conv=>whnf
      repeat(any_goals((first|refine .inl ⟨_,ih k hlt,?_⟩)<;>conv=>whnf))
      refine⟨[],?_⟩
      all_goals exact QD
    |exit i=>obtain⟨_,_,h,_⟩:=he;exact h.elim
    |ret=>obtain⟨_,_,h,_⟩:=he;exact h.elim
    |goto t=>exact he.elim
    |panic c=>exact he.elim
    |outgrown=>exact he.elim
   |exit i=>obtain⟨_,_,h,_⟩:=he;exact h.elim
   |ret=>obtain⟨_,_,h,_⟩:=he;exact h.elim
   |goto t=>exact he.elim
   |panic c=>exact he.elim
   |outgrown=>exact he.elim
  ·refine wpIn_mono (Z0r (ro:=none) (n:=1) (d:=[]) hE T_ok _ _ (exit0Q fun s=>∃r,entS r s (kidS v ks l k)) _ _ _ rfl hd hR ?_) ?_
   ·conv=>whnf
    refine⟨fun h=>?_,fun h=>?_⟩<;>(try simp only[Q0,Q1,Q2,Q3,Q4,Q5,Q6,Q7,Q8,reduceCtorEq]at h)<;>(conv=>whnf)
    ·exfalso;omega
    ·refine⟨[],?_⟩
     all_goals exact QD
   ·rintro e a2 w2 ⟨hd2,he⟩
    cases e with
    |exit i=>
     obtain⟨s2,σ2,h2,hR2⟩:=he
     match i,h2 with
     |0,⟨r2,hent2⟩=>
      obtain⟨σ3,hR2⟩:=Z0j hent2 _ σ2 _ w2 hE hR2;have hJ2:=hJ k w w2 hJk (hR2.ext.mono fun b _ h=>absurd h (Z1p b));have hkN:k=ks.length:=by omega
      subst hkN;exact⟨hd2,_,results_none rfl _ _ _,_,rfl,.inl hJ2⟩
    |normal=>obtain⟨_,_,h,_⟩:=he;exact h.elim
    |ret=>obtain⟨_,_,h,_⟩:=he;exact h.elim
    |goto t=>exact he.elim
    |panic c=>exact he.elim
    |outgrown=>exact he.elim
 |exit i=>obtain⟨_,_,h,_⟩:=he;exact h.elim
 |ret=>obtain⟨_,_,h,_⟩:=he;exact h.elim
 |goto t=>exact he.elim
 |panic c=>exact he.elim
 |outgrown=>exact he.elim
theorem jun_ok{x:Val}(h:(fndV x).2=true):(fndV x).1=x∧x.kind≠0:=by
 by_cases hk:x.kind=0
 ·rw[Z4c hk]at h;cases h
 rw[Z2f hk];exact⟨rfl,hk⟩
theorem jun_un{x:Val}(h:(fndV x).2=false):x.kind=0:=by
 by_cases hk:x.kind=0
 ·exact hk
 rw[Z2f hk]at h;cases h
def opnB(v:Vw)(ks:List Ex)(k:Nat):Bool:=!decide (∀j,j<k->(evR v (ks.getD j default)).kind=1)
def jTm(v:Vw)(ks:List Ex):List (Nat×AV):=[(5,.ptr 900005 0),(6,.ptr 900006 0),(7,.ptr 900007 0),(8,.ptr 900008 0),(13,.fn 248 ([.cell [roL 11 cEx ks],.cell (cVw v)].map .pv))]
def jOb(v:Vw)(ks:List Ex)(d:Bool)(k:Nat):List (Nat×AObj):=[(900005,.pbox [vint (if d=true then 1 else 0)]),(900006,.pbox (cVal noVal)),(900007,.pbox [.val (.bool false)]),(900008,.pbox [.sb (opnB v ks k)])]
def jOx(v:Vw)(ks:List Ex)(d:Bool)(k:Nat):List (Nat×AObj):=[(900005,.pbox [vint (if d=true then 1 else 0)]),(900006,.pbox (cVal (truV d))),(900007,.pbox [.sb true]),(900008,.pbox [.sb (opnB v ks k)])]
def jSa(v:Vw)(ks:List Ex)(d:Bool)(k:Nat):AState:=⟨[(9,.ptr 9 0),(10,.pv (kidX v ks k).2),(5,.ptr 900005 0),(6,.ptr 900006 0),(7,.ptr 900007 0),(8,.ptr 900008 0)],(9,.pbox (cVal (fndV (evR v (ks.getD k default))).1))::jOb v ks d k⟩
def jFin(v:Vw)(ks:List Ex)(d:Bool)(k:Nat)(r:Val×Bool):AState:=⟨[(6,.ptr 900006 0),(7,.ptr 900007 0)],[(900005,.pbox [vint (if d=true then 1 else 0)]),(900006,.pbox (cVal r.1)),(900007,.pbox [.sb r.2]),(900008,.pbox [.sb (opnB v ks k)])]⟩
theorem Zbr(v:Vw)(ks:List Ex)(d:Bool)(hv:smallV2 v)(hl:smallL ks)(hok:∀i,i<ks.length->okN (ks.getD i default))
  (ih:∀i,i<ks.length->AC Tryz.prog 98 [.pv (.agg (cVw v)),.pv (.agg (cEx (ks.getD i default)))] [] (.pv (.tup [.agg (cVal (fndV (evR v (ks.getD i default))).1),vbool (fndV (evR v (ks.getD i default))).2])) []) :
  AC Tryz.prog 153 [.pv (.agg (cVw v)),.pv (roL 11 cEx ks),.pv (vint (if d=true then 1 else 0))] [] (.pv (.tup [.agg (cVal (fndV (chainV (evL v ks) d)).1),vbool (fndV (chainV (evL v ks) d)).2])) []:=by
 refine⟨Tryz.call153,fun St M0 σ w vals hi hσ _ hlv hA=>?_⟩;have hσ':σ=fun _=>none:=funext fun l=>hσ l rfl
 subst hσ';have hM:∀b,M0 b->b<w.heap.size:=fun b hb=>(hi.m0 b hb).1
 have hg:Glob w M0:=hi.gl.mono (Same.refl _ _) (fun b _ h=>.inl h);have hi0:=Zfc hM hg;have hE0:=reE_ok (nt:=43) hi0;have toM:∀ {p:PV} {x:Value},PR w (Mof M0 (fun _=>none)) p x->PR w M0 p x:=fun h=>h.mono (Same.refl _ _) fun b _ h=>.inl h
 have hR0:Rel Tryz.prog (reE 43 M0 (fun _=>none) w) ⟨argTm 0 [.pv (.agg (cVw v)),.pv (roL 11 cEx ks),.pv (vint (if d=true then 1 else 0))],[]⟩ (fun _=>none) ⟨vals++Array.replicate (43-vals.size) undef,[]⟩ w:=
  Zh6 hlv (qi rfl) rfl (fun i x e=>by
   match i,e with
   |0,e=>simp at e;subst e;exact .pv _ _ (toM (arg_pv (hA 0 _ rfl)))
   |1,e=>simp at e;subst e;exact .pv _ _ (toM (arg_pv (hA 1 _ rfl)))
   |2,e=>simp at e;subst e;exact .pv _ _ (toM (arg_pv (hA 2 _ rfl)))
   |i+3,e=>simp at e)
 refine(callsIn_wf (n:=1) (ro:=none)).1 (callsIn_of_wp_marks Tryz.func153 rfl trivial ?_);refine pre3 (d:=[]) (K:=fun s=>∃r,entS r s ⟨jTm v ks,jOb v ks d 0⟩) hE0 T_ok rfl rfl hR0 ?_ ?_
 ·conv=>whnf
  repeat(any_goals((first|refine .inr (.inr (.inr (.inr ⟨[],[],_,_,_,Zjr v ks,rfl,?_⟩))))<;>conv=>whnf))
  refine⟨[(900005,5),(900006,6),(900007,7),(900008,8)],?_⟩
  all_goals exact QD
 rintro s1 σ1 a1 w1 ⟨r,hent⟩ hd1 hR1
 obtain⟨σ2,hR1⟩:=Z0j hent _ σ1 _ w1 hE0 hR1;clear hent hR0;refine wpIn_block ?_;obtain⟨c0,c1,hc,hc0,hc1⟩:∃c0 c1,a1.eval (.tmp 13) = .func (.func 248) #[] #[c0,c1]∧PR w1 (Mof M0 σ2) (.cell [roL 11 cEx ks]) c0∧PR w1 (Mof M0 σ2) (.cell (cVw v)) c1:=by
  have h:=hR1.tm 13;change AR _ _ _ _ _ (.fn 248 ([.cell [roL 11 cEx ks],.cell (cVw v)].map .pv)) (a1.eval (.tmp 13))at h;generalize a1.eval (.tmp 13)=x at h ⊢;cases h with
  |fn _ _ vs hl h=>
   have hl:vs.size=2:=hl;refine⟨vs.getD 0 undef,vs.getD 1 undef,?_,arg_pv (h 0 _ rfl),arg_pv (h 1 _ rfl)⟩;congr 1;apply Array.ext
   ·simpa using hl
   ·intro i h1 h2;have:i=0∨i=1:=by omega
    rcases this with rfl|rfl<;>simp[Array.getD,hl]
 have hw1:FExt (fun b=>w.heap.size<=b) w w1:=hR1.ext.mono fun b _ h=>absurd h (Z1p b)
 have hown:∀b,owned σ2 b->w.heap.size<=b:=fun b hb=>(hR1.own b hb).elim (fun h=>absurd h (Z1p b)) id
 have hkeys:∀k i,(getO (jOb v ks d k) i=none↔getO (jOb v ks d 0) i=none):=fun k i=>Zem (l:=jOb v ks d k) (l':=jOb v ks d 0) rfl i
 have hkx:∀k i,(getO (jOx v ks d k) i=none↔getO (jOb v ks d 0) i=none):=fun k i=>Zem (l:=jOx v ks d k) (l':=jOb v ks d 0) rfl i
 refine Zt9 (d:=[]) (N:=ks.length) (xs:=kidX v ks) (ob:=jOb v ks d) (Sa:=jSa v ks d) (ox:=jOx v ks d) (G:=fun k=>∀j,j<k->evR v (ks.getD j default)≠truV d) (C:=fun k=>evR v (ks.getD k default)=truV d) T_ok hE0 hd1 hR1 hc Tryz.call248
  (fun M W hMb hMs hgW hx=>Zr0 v ks hl ih hMs hgW (hc0.mono (hx.same.mono fun _ _ h=>h.elim) hMb) (hc1.mono (hx.same.mono fun _ _ h=>h.elim) hMb))
  (fun _ _=>rfl) (fun _ _=>rfl) (fun _ _=>rfl) (fun j h=>absurd h (by omega)) (fun i h=>?_) (fun k _=>hkeys k) (fun k _ i h=>?_) (fun k _=>hkx k) (qi rfl) (qi rfl) rfl rfl (fun k hk=>?_) (fun k hk hG=>?_) ?_ ?_
 ·have:=Zen h;simp[jOb]at this;omega
 ·have h1:=Zen h;intro h2;have h2:=getO_none.1 h2;simp[jSa,jOb]at h1 h2;omega
 ·conv=>whnf
  refine⟨[],?_⟩
  all_goals exact QD
 ·have hb:=evR_ok v (hok k hk);have htr:AC Tryz.prog 148 [.pv (vbool (decide ((if d=true then(1:Int)else 0)=1)))] [] (.pv (.tup [.agg (cVal (truV d)),vbool true])) []:=by
   rw[show decide ((if d=true then(1:Int)else 0)=1)=d from by cases d<;>rfl];exact Z2v d
  have op1:∀(h:(evR v (ks.getD k default)).kind≠1),true=opnB v ks (k+1):=fun h=>by
   unfold opnB;rw[qG (fun h2=>h (h2 k (by omega)))];rfl
  have op0:∀(h:(evR v (ks.getD k default)).kind=1),opnB v ks k=opnB v ks (k+1):=fun h=>by
   unfold opnB;congr 1;rw[Q6];exact⟨fun h2 j hj=>(if e:j=k then e▸h else h2 j (by omega)),fun h2 j hj=>h2 j (by omega)⟩
  have go1:evR v (ks.getD k default)≠truV d->∀j,j<k+1->evR v (ks.getD j default)≠truV d:=fun h j hj=>by
   by_cases e:j=k
   ·subst e;exact h
   ·exact hG j (by omega)
  conv=>whnf
  repeat(any_goals((first|refine QB ?_ ?_<;>intro h<;>(try simp only[Q0,Q1,Q2,Q3,Q4,Q5,Q6,Q7,Q8,reduceCtorEq]at h)|refine .inl ⟨_,htr,?_⟩)<;>conv=>whnf))
  ·refine⟨go1 fun e=>?_,[],?_⟩
   ·rw[e]at h;cases d<;>cases h
   ·have h2:=jun_un h;(repeat'(first|exact QC|refine qa ?_ ?_));exact PSub.lit_sb (op1 (by omega))
  ·have h2:=jun_ok (by assumption);rw[h2.1]at h;refine⟨go1 fun e=>?_,[],?_⟩
   ·rw[e]at h;exact h rfl
   ·(repeat'(first|exact QC|refine qa ?_ ?_))
    exact PSub.lit_sb (op1 h)
  ·rename_i h1 h2;have h3:=jun_ok h1;rw[h3.1]at h h2;refine⟨?_,[],?_⟩
   ·rcases Z67 hb h2 with e|e
    ·rw[e]at h ⊢;cases d
     ·cases h
     ·rfl
    ·rw[e]at h ⊢;cases d
     ·rfl
     ·cases h
   ·exact QD
  ·rename_i h1 h2;have h3:=jun_ok h1;rw[h3.1]at h h2;refine⟨go1 fun e=>?_,[],?_⟩
   ·rw[e]at h;exact h rfl
   ·(repeat'(first|exact QC|refine qa ?_ ?_))
    rw[<-op0 h2];exact PSub.rfl
 ·intro M1 D W hG hMM hD hDw hWD hiW hRW hx;have hxW:FExt (fun b=>w.heap.size<=b) w W:=hw1.trans (hx.mono fun b _ hb=>hown b hb);have hEW:=reE_ok (nt:=43) hiW;have htr:AC Tryz.prog 148 [.pv (vbool (decide ((if d=true then(1:Int)else 0)=0)))] [] (.pv (.tup [.agg (cVal (truV (!d))),vbool true])) []:=by
   rw[show decide ((if d=true then(1:Int)else 0)=0) = !d from by cases d<;>rfl];exact Z2v (!d)
  have hch:chainV (evL v ks) d=if opnB v ks ks.length=true then noVal else truV (!d):=by
   unfold chainV;have hany:((evL v ks).any fun x=>decide (x=truV d))=false:=by
    rw[List.any_eq_false];intro x hx;obtain⟨i,hi,rfl⟩:=qp hx;have hi2:i<ks.length:=by rw[Z3c]at hi;exact hi
    have:=hG i hi2;rw[<-Z1y v ks i hi2]at this;simpa[List.getD,hi]using this
   rw[hany];have hall:((evL v ks).all fun x=>decide (x.kind=1)) = !opnB v ks ks.length:=by
    unfold opnB;rw[Bool.not_not,qt,qz,decide_eq_true_iff];constructor
    ·intro h j hj;rw[<-Z1y v ks j hj];have hj2:j<(evL v ks).length:=by rw[Z3c];exact hj
     have:=h _ (qE hj2);simpa[List.getD,hj2]using this
    ·intro h x hx;obtain⟨i,hi,rfl⟩:=qp hx;have hi2:i<ks.length:=by rw[Z3c]at hi;exact hi
     have:=h i hi2;rw[<-Z1y v ks i hi2]at this;simpa[List.getD,hi]using this
   rw[hall];cases opnB v ks ks.length<;>rfl
  refine wpIn_mono (Z0r (ro:=none) (n:=1) (d:=[{ target:=.collected D,args:=#[] }]) hEW T_ok _ _ (endQ fun s=>∃r,entS r s (jFin v ks d ks.length (fndV (chainV (evL v ks) d)))) σ2 _ W rfl rfl hRW ?_) ?_
  ·conv=>whnf
   repeat(any_goals((first|refine QB ?_ ?_<;>intro h<;>(try simp only[Q0,Q1,Q2,Q3,Q4,Q5,Q6,Q7,Q8,reduceCtorEq]at h)|refine .inl ⟨_,Z1t,?_⟩|refine .inl ⟨_,htr,?_⟩)<;>conv=>whnf))
   ·rw[hch,qK h,show fndV noVal=(noVal,false)from rfl];refine⟨[],?_⟩
    all_goals exact QD
   ·rw[hch,qJ (show ¬opnB v ks ks.length=true from by rw[h];decide),show fndV (truV (!d))=(truV (!d),true)from rfl];refine⟨[],?_⟩
    all_goals exact QD
  ·rintro e a3 W3 ⟨hd3,he⟩
   have fin:∀s σ3,(∃r,entS r s (jFin v ks d ks.length (fndV (chainV (evL v ks) d))))->Rel Tryz.prog (reE 43 M1 σ2 W) s σ3 ⟨a3.tmps,[]⟩ W3->LeavesInM (WF none) 1 Tryz.prog Tryz.f153 a3.tmps (fun e w'=>∃x σ',e = .returned x∧Post Tryz.prog St M0 (fun _=>none) w [] (.pv (.tup [.agg (cVal (fndV (chainV (evL v ks) d)).1),vbool (fndV (chainV (evL v ks) d)).2])) σ' x w') a3.defers .returning W3:=by
    rintro s σ3 ⟨r,hent⟩ hR3
    obtain⟨σ4,hR3⟩:=Z0j hent _ σ3 _ W3 hEW hR3;exact Zfx T_ok hiW hR3 rfl (by refine⟨?_,?_⟩<;>exact PSub.rfl) rfl hD (qF hw1.size hDw) hWD hd3 hxW hown
   cases e with
   |normal=>obtain⟨s,σ3,h1,h2⟩:=he;exact fin s σ3 h1 h2
   |ret=>obtain⟨s,σ3,h1,h2⟩:=he;exact fin s σ3 h1 h2
   |exit i=>obtain⟨_,_,h,_⟩:=he;exact h.elim
   |goto t=>exact he.elim
   |panic c=>exact he.elim
   |outgrown=>exact he.elim
 ·intro M1 D W k hk hC hMM hD hDw hWD hiW hRW hx;have hxW:FExt (fun b=>w.heap.size<=b) w W:=hw1.trans (hx.mono fun b _ hb=>hown b hb);have hEW:=reE_ok (nt:=43) hiW;have hch:chainV (evL v ks) d=truV d:=by
   unfold chainV;rw[qK];rw[List.any_eq_true];have hk2:k<(evL v ks).length:=by rw[Z3c];exact hk
   refine⟨(evL v ks)[k],qE hk2,qB ?_⟩;have:=Z1y v ks k hk;rw[hC]at this;simpa[List.getD,hk2]using this
  have hent:entS [] ⟨jTm v ks,jOx v ks d k⟩ (jFin v ks d k (fndV (chainV (evL v ks) d))):=by
   rw[hch,show fndV (truV d)=(truV d,true)from rfl]
   all_goals exact QD
  obtain⟨σ4,hR3⟩:=Z0j hent _ σ2 _ W hEW hRW;exact Zfx (a':=⟨a1.tmps,[{ target:=.collected D,args:=#[] }]⟩) T_ok hiW hR3 rfl (by refine⟨?_,?_⟩<;>exact PSub.rfl) rfl hD (qF hw1.size hDw) hWD rfl hxW hown
end Go.Abs
